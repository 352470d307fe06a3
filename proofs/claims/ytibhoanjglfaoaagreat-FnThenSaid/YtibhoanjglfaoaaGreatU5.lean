/- Lemmas of the walks, part 5. -/
import Derived.Test.YtibhoanjglfaoaaGreatU4
import Derived.Sort.Grow
import Derived.Shelf.SlSortCmp.WholeK
import Derived.Test.YtibhoanjglfaoaaGreatRows
import Derived.Shelf.Spec.SlicesGrow
/- Deltas applied to stores, in plain words: what parts two stores leads from the one to the other. -/
namespace Go.Proofs.YtibhoanjglfaoaaGreat
open Go.RowKit
set_option linter.unusedVariables false

/-- The rows of a relation behind a change. -/
def nextRows (r : Relt) (c : Changet) : List (List Val) := (r.rows.filter fun row => !hasRow c.minus.rows row) ++ c.plus.rows
def nextRel (out : List Namedt) (c : Changet) : Relt × Bool := relOf (namedIn out c.name).1.arity (nextRows (namedIn out c.name).1 c)
def applyTo (rels : List Namedt) : List Changet → List Namedt × Bool
  | [] => (rels, true)
  | c :: cs => if (nextRel rels c).2 = true then applyTo (withRel rels ⟨c.name, (nextRel rels c).1⟩) cs else ([], false)
def deltaApply (s : Storet) (d : Deltat) : Storet × Bool := if deltaFits s d = true then (⟨(applyTo s.rels d.changes).1⟩, (applyTo s.rels d.changes).2) else (⟨[]⟩, false)
theorem deltaApply_no {s : Storet} {d : Deltat} (h : deltaFits s d = false) : deltaApply s d = (⟨[]⟩, false) := by unfold deltaApply; rw [h]; rfl
theorem deltaApply_ok {s : Storet} {d : Deltat} (h : deltaFits s d = true) : deltaApply s d = (⟨(applyTo s.rels d.changes).1⟩, (applyTo s.rels d.changes).2) := if_pos h
/-! ### Two stores of the same names -/
structure Pairs (a b : List Namedt) : Prop where
  len : a.length = b.length
  name : ∀ j (h : j < a.length) (h' : j < b.length), a[j].name = b[j].name
  ar : ∀ j (h : j < a.length) (h' : j < b.length), a[j].rel.arity = b[j].rel.arity
theorem Pairs.symm {a b : List Namedt} (h : Pairs a b) : Pairs b a := ⟨h.len.symm, fun j h1 h2 => (h.name j h2 h1).symm, fun j h1 h2 => (h.ar j h2 h1).symm⟩
theorem deltaOf_is {a b : Storet} (h : (deltaOf a b).2 = true) : storeOk a = true ∧ storeOk b = true ∧ Pairs a.rels b.rels ∧ deltaOf a b = (⟨ofTo a.rels b.rels a.rels.length⟩, true) := by
  unfold deltaOf at h ⊢
  split at h
  · rename_i h1
    rw [if_pos h1]
    simp only [Bool.and_eq_true, decide_eq_true_eq] at h1
    obtain ⟨q1, q2, q3, q4⟩ := h1
    refine ⟨q1, q2, ⟨q3, fun j hj hj' => ?_, fun j hj hj' => ?_⟩, rfl⟩
    all_goals
      have := everyB_get q4 hj
      simp only [pairAt, dif_pos hj', Bool.and_eq_true, decide_eq_true_eq] at this
    · exact name_eq.1 this.1
    · exact this.2
  · cases h
theorem deltaOf_mk {a b : Storet} (h1 : storeOk a = true) (h2 : storeOk b = true) (hp : Pairs a.rels b.rels) : deltaOf a b = (⟨ofTo a.rels b.rels a.rels.length⟩, true) := by
  refine deltaOf_good (k := a.rels.length) h1 h2 (by have := hp.len; omega) (fun j hj _ => ?_) (Nat.le_refl _)
  have hj' : j < b.rels.length := by have := hp.len; omega
  exact pairAt_yes hj hj' (name_eq.2 (hp.name j hj hj')) (hp.ar j hj hj')
theorem ofTo_is {a b : List Namedt} (hp : Pairs a b) : ofTo a b a.length = (List.zipWith ofAt a b).filter someRows := by
  unfold ofTo
  exact filtTo_all (by simp [hp.len])
/-! ### One name after the other -/
theorem nextRows_of {x y : Relt} {n m : ByteArray} (hx : relOk x = true) (hy : relOk y = true) : sortRows (nextRows x (ofAt ⟨n, x⟩ ⟨m, y⟩)) = y.rows := by
  have sx := relOk_sorted hx
  have sy := relOk_sorted hy
  refine sorted_ext (sortRows_sorted fun r hr => ?_) sy fun z => ?_
  · rcases List.mem_append.1 hr with q | q
    · exact sx.vals r (List.mem_filter.1 q).1
    · exact sy.vals r (List.mem_filter.1 q).1
  · rw [sortRows_mem]
    unfold nextRows ofAt
    simp only [List.mem_append, List.mem_filter, hasRow, Bool.not_eq_true', decide_eq_false_iff_not]
    constructor
    · rintro (⟨q1, q2⟩ | ⟨q1, _⟩)
      · exact Classical.byContradiction fun q3 => q2 ⟨q1, q3⟩
      · exact q1
    · intro q
      by_cases h : z ∈ x.rows
      · exact .inl ⟨h, fun q2 => q2.2 q⟩
      · exact .inr ⟨q, h⟩
theorem noRows_of {x y : Namedt} (hx : relOk x.rel = true) (hy : relOk y.rel = true) (hn : x.name = y.name) (har : x.rel.arity = y.rel.arity) (h : someRows (ofAt x y) = false) : x = y := by
  have h : ¬ 0 < (ofAt x y).plus.rows.length + (ofAt x y).minus.rows.length := of_decide_eq_false h
  simp only [ofAt] at h
  have h1 : (y.rel.rows.filter fun r => !hasRow x.rel.rows r) = [] := List.eq_nil_of_length_eq_zero (by omega)
  have h2 : (x.rel.rows.filter fun r => !hasRow y.rel.rows r) = [] := List.eq_nil_of_length_eq_zero (by omega)
  rw [List.filter_eq_nil_iff] at h1 h2
  have e : x.rel.rows = y.rel.rows := sorted_ext (relOk_sorted hx) (relOk_sorted hy) fun z =>
    ⟨fun q => by have := h2 z q; simpa [hasRow] using this, fun q => by have := h1 z q; simpa [hasRow] using this⟩
  obtain ⟨n, p, rows⟩ := x
  obtain ⟨m, q, rows2⟩ := y
  simp only at hn har e
  rw [hn, har, e]
theorem sortedN_like {a m : List Namedt} (hs : SortedN a) (hl : m.length = a.length) (hn : ∀ j (h : j < m.length) (h' : j < a.length), m[j].name = a[j].name) : SortedN m := fun i j hi hj hij => by
  rw [hn i hi (by omega), hn j hj (by omega)]
  exact hs i j (by omega) (by omega) hij
theorem namedIn_idx {l : List Namedt} (hs : SortedN l) {i : Nat} (hi : i < l.length) : namedIn l l[i].name = (l[i].rel, true) := by
  refine namedIn_at hi (fun j hj hji => name_ne.2 fun e => ?_) (name_eq.2 rfl)
  have := hs j i hj hi hji
  rw [e] at this; exact nlt_irr this
theorem withRel_idx {l : List Namedt} (hs : SortedN l) {i : Nat} (hi : i < l.length) {nw : Namedt} (hn : nw.name = l[i].name) : withRel l nw = l.set i nw := by
  rw [withRel_set hs]
  refine setRel_rep hs hi (fun j hj hji => ?_) (name_eq.2 hn.symm)
  rw [hn]; exact hs j i hj hi hji
theorem apply_zip : ∀ (a b p : List Namedt), Pairs a b → (∀ x ∈ a, relOk x.rel = true) → (∀ x ∈ b, relOk x.rel = true) → SortedN (p ++ a) → applyTo (p ++ a) ((List.zipWith ofAt a b).filter someRows) = (p ++ b, true)
  | [], [], p, _, _, _, _ => rfl
  | [], _ :: _, p, h, _, _, _ => by have := h.len; simp at this
  | _ :: _, [], p, h, _, _, _ => by have := h.len; simp at this
  | x :: a, y :: b, p, h, ha, hb, hs => by
    have hn : x.name = y.name := h.name 0 (by simp) (by simp)
    have har : x.rel.arity = y.rel.arity := h.ar 0 (by simp) (by simp)
    have hp : Pairs a b := ⟨by simpa using h.len, fun j h1 h2 => h.name (j + 1) (by simpa using h1) (by simpa using h2), fun j h1 h2 => h.ar (j + 1) (by simpa using h1) (by simpa using h2)⟩
    have hx := ha x (by simp)
    have hy := hb y (by simp)
    have hs2 : SortedN ((p ++ [y]) ++ a) := sortedN_like hs (by simp) fun j h1 h2 => by
      rcases Nat.lt_trichotomy j p.length with q | q | q
      · simp [q]
      · subst q; simp [hn]
      · have q1 : ¬ j < p.length := by omega
        obtain ⟨e, rfl⟩ : ∃ e, j = p.length + 1 + e := ⟨j - (p.length + 1), by omega⟩
        simp [List.getElem_append, show p.length + 1 + e - p.length = e + 1 by omega]
    have ih := apply_zip a b (p ++ [y]) hp (fun z hz => ha z (by simp [hz])) (fun z hz => hb z (by simp [hz])) hs2
    rw [List.append_assoc, List.append_assoc, List.singleton_append, List.singleton_append] at ih
    simp only [List.zipWith_cons_cons, List.filter_cons]
    cases hc : someRows (ofAt x y)
    · have e := noRows_of hx hy hn har hc
      subst e
      exact ih
    · have hi : p.length < (p ++ x :: a).length := by simp
      have hat : (p ++ x :: a)[p.length] = x := by simp
      have e1 : namedIn (p ++ x :: a) (ofAt x y).name = (x.rel, true) := by
        have := namedIn_idx hs hi
        rw [hat] at this; exact this
      have e2 : nextRel (p ++ x :: a) (ofAt x y) = (y.rel, true) := by
        unfold nextRel
        rw [e1]
        have e3 : sortRows (nextRows x.rel (ofAt x y)) = y.rel.rows := nextRows_of (n := x.name) (m := y.name) hx hy
        have := (relOk_small hy).2.2.1
        rw [relOf_ok (by rw [e3]; omega), e3, har]
      have e4 : withRel (p ++ x :: a) ⟨(ofAt x y).name, y.rel⟩ = p ++ y :: a := by
        rw [withRel_idx hs hi (by rw [hat]; rfl)]
        have : (⟨(ofAt x y).name, y.rel⟩ : Namedt) = y := by
          obtain ⟨m, q⟩ := y
          simp only at hn
          show (⟨x.name, q⟩ : Namedt) = _
          rw [hn]
        rw [this]; simp
      simp only [if_true, applyTo, e2, e4]
      exact ih
/-! ### The delta is right, and fits -/
theorem of_two {x y : Namedt} (hx : relOk x.rel = true) (hy : relOk y.rel = true) (har : x.rel.arity = y.rel.arity) : two (ofAt x y).plus (ofAt x y).minus = true := by
  have px := relOk_parts hx
  have py := relOk_parts hy
  have sub : ∀ {r : Relt} {rows : List (List Val)}, relOk r = true → rows.Sublist r.rows → relOk ⟨r.arity, rows⟩ = true := fun {r rows} h hs => by
    have hp := relOk_parts h
    refine relOk_good (k := rows.length) ?_ (Nat.le_refl _) hp.2.1 hp.2.2.1 (Nat.le_trans hs.length_le hp.2.2.2)
    intro j hj hjk
    have hj : j < rows.length := hj
    have srt : Sorted rows := Sorted.of_pw (fun q hq => (relOk_sorted h).vals q (hs.subset hq)) ((relOk_sorted h).pw.sublist hs)
    have hm := hs.subset (List.getElem_mem hj)
    obtain ⟨i, hi, e⟩ := List.getElem_of_mem hm
    have hl : (rows[j].length : Int) = r.arity := by rw [← e]; exact relOk_ar h hi
    have hr : rowOk rows[j] = true := by
      rw [← e]
      exact hp.1.row (by omega) hi
    cases j with
    | zero => exact rowAt_first hj hl hr rfl
    | succ j => exact rowAt_next hj hl hr (by omega) (srt.2 j (j + 1) (by omega) hj (by omega))
  have o1 : relOk (ofAt x y).plus = true := sub hy List.filter_sublist
  have o2 : relOk (ofAt x y).minus = true := sub hx List.filter_sublist
  rw [two_ok o1 o2]
  simp [ofAt, har]
theorem of_apart (x y : Namedt) : apart (ofAt x y).plus (ofAt x y).minus = true := by
  rw [apart_iff]
  refine List.length_eq_zero_iff.2 (List.filter_eq_nil_iff.2 fun z hz => ?_)
  simp only [ofAt, List.mem_filter, hasRow, Bool.not_eq_true', decide_eq_false_iff_not, decide_eq_true_eq] at hz ⊢
  exact fun q => hz.2 q.1
theorem changes_mem {a b : List Namedt} {c : Changet} (h : c ∈ (List.zipWith ofAt a b).filter someRows) : ∃ j, ∃ (h1 : j < a.length) (h2 : j < b.length), c = ofAt a[j] b[j] ∧ someRows c = true := by
  obtain ⟨h1, h2⟩ := List.mem_filter.1 h
  obtain ⟨j, hj, e⟩ := List.getElem_of_mem h1
  have hj2 := hj
  rw [List.length_zipWith] at hj2
  rw [List.getElem_zipWith] at e
  exact ⟨j, by omega, by omega, e.symm, h2⟩
theorem changes_sorted {a b : List Namedt} (hs : SortedN a) : ((List.zipWith ofAt a b).filter someRows).Pairwise fun c c' => nlt c.name c'.name := by
  refine List.Pairwise.filter _ (List.pairwise_iff_getElem.2 fun i j hi hj hij => ?_)
  rw [List.getElem_zipWith, List.getElem_zipWith]
  rw [List.length_zipWith] at hi hj
  exact hs i j (by omega) (by omega) hij
theorem delta_right {a b : Storet} (h : (deltaOf a b).2 = true) : deltaOk (deltaOf a b).1 = true := by
  obtain ⟨oa, ob, hp, e⟩ := deltaOf_is h
  rw [e]
  have hz := ofTo_is hp
  rw [hz]
  have hs := changes_sorted (b := b.rels) (storeOk_names oa)
  refine deltaOk_good (k := ((List.zipWith ofAt a.rels b.rels).filter someRows).length) (fun k hk _ => ?_) (Nat.le_refl _) ?_
  · have hk : k < ((List.zipWith ofAt a.rels b.rels).filter someRows).length := hk
    obtain ⟨j, h1, h2, e1, e2⟩ := changes_mem (List.getElem_mem hk)
    have ox := storeOk_rel oa h1
    have oy := storeOk_rel ob h2
    refine changeAt_good hk ?_ (fun h0 => ?_) ?_ ?_ ?_
    · show wordB (((List.zipWith ofAt a.rels b.rels).filter someRows)[k]).name = true
      rw [e1]
      have hw := oa
      simp only [storeOk, Bool.and_eq_true] at hw
      have := everyB_get hw.1 h1
      simp only [namedAt, Bool.and_eq_true] at this
      exact this.1
    · exact List.pairwise_iff_getElem.1 hs (k - 1) k (by omega) hk (by omega)
    · show two (((List.zipWith ofAt a.rels b.rels).filter someRows)[k]).plus (((List.zipWith ofAt a.rels b.rels).filter someRows)[k]).minus = true
      rw [e1]; exact of_two ox oy (hp.ar j h1 h2)
    · simp only [someRows, decide_eq_true_eq] at e2
      show ¬ ((((List.zipWith ofAt a.rels b.rels).filter someRows)[k]).plus.rows.length : Int) + (((List.zipWith ofAt a.rels b.rels).filter someRows)[k]).minus.rows.length = 0
      omega
    · show apart (((List.zipWith ofAt a.rels b.rels).filter someRows)[k]).plus (((List.zipWith ofAt a.rels b.rels).filter someRows)[k]).minus = true
      rw [e1]; exact of_apart _ _
  · have h1 := storeOk_max oa
    have h2 : ((List.zipWith ofAt a.rels b.rels).filter someRows).length ≤ (List.zipWith ofAt a.rels b.rels).length := List.length_filter_le _ _
    rw [List.length_zipWith] at h2
    show ((List.zipWith ofAt a.rels b.rels).filter someRows).length ≤ 24
    omega
theorem delta_fits {a b : Storet} (h : (deltaOf a b).2 = true) : deltaFits a (deltaOf a b).1 = true := by
  obtain ⟨oa, ob, hp, e⟩ := deltaOf_is h
  have hd := delta_right h
  rw [e] at hd ⊢
  rw [ofTo_is hp] at hd ⊢
  refine fits_good (k := ((List.zipWith ofAt a.rels b.rels).filter someRows).length) oa hd (fun k hk _ => ?_) (Nat.le_refl _)
  have hk : k < ((List.zipWith ofAt a.rels b.rels).filter someRows).length := hk
  obtain ⟨j, h1, h2, e1, e2⟩ := changes_mem (List.getElem_mem hk)
  have en : namedIn a.rels (ofAt a.rels[j] b.rels[j]).name = (a.rels[j].rel, true) := namedIn_idx (storeOk_names oa) h1
  have e0 : (namedIn a.rels (((List.zipWith ofAt a.rels b.rels).filter someRows)[k]).name) = (a.rels[j].rel, true) := by rw [e1]; exact en
  refine fitAt_yes hk ?_ ?_ ?_ ?_
  · show (namedIn a.rels (((List.zipWith ofAt a.rels b.rels).filter someRows)[k]).name).2 = true
    rw [e0]
  · show (namedIn a.rels (((List.zipWith ofAt a.rels b.rels).filter someRows)[k]).name).1.arity = (((List.zipWith ofAt a.rels b.rels).filter someRows)[k]).plus.arity
    rw [e0, e1]; exact hp.ar j h1 h2
  · show apart (namedIn a.rels (((List.zipWith ofAt a.rels b.rels).filter someRows)[k]).name).1 (((List.zipWith ofAt a.rels b.rels).filter someRows)[k]).plus = true
    rw [e0, e1, apart_iff]
    refine List.length_eq_zero_iff.2 (List.filter_eq_nil_iff.2 fun z hz => ?_)
    simp only [ofAt, List.mem_filter, hasRow, Bool.not_eq_true', decide_eq_false_iff_not, decide_eq_true_eq]
    exact fun q => q.2 hz
  · show ((((List.zipWith ofAt a.rels b.rels).filter someRows)[k]).minus.rows.filter fun row => !hasRow (namedIn a.rels (((List.zipWith ofAt a.rels b.rels).filter someRows)[k]).name).1.rows row).length = 0
    rw [e0, e1]
    refine List.length_eq_zero_iff.2 (List.filter_eq_nil_iff.2 fun z hz => ?_)
    simp only [ofAt, List.mem_filter, hasRow] at hz ⊢
    simp [hz.1]
/-- What parts two stores, applied. -/
theorem delta_there {a b : Storet} (h : (deltaOf a b).2 = true) : deltaApply a (deltaOf a b).1 = (b, true) := by
  obtain ⟨oa, ob, hp, e⟩ := deltaOf_is h
  rw [deltaApply_ok (delta_fits h), e]
  have hz : applyTo a.rels (ofTo a.rels b.rels a.rels.length) = (b.rels, true) := by
    rw [ofTo_is hp]
    have := apply_zip a.rels b.rels [] hp (fun x hx => by
      obtain ⟨j, hj, rfl⟩ := List.getElem_of_mem hx
      exact storeOk_rel oa hj) (fun x hx => by
      obtain ⟨j, hj, rfl⟩ := List.getElem_of_mem hx
      exact storeOk_rel ob hj) (storeOk_names oa)
    exact this
  show ((⟨(applyTo a.rels (ofTo a.rels b.rels a.rels.length)).1⟩ : Storet), _) = _
  rw [hz]
end Go.Proofs.YtibhoanjglfaoaaGreat

/- What the relations of a store have while changes are applied. -/
namespace Go.Proofs.YtibhoanjglfaoaaGreat
open Go.RowKit
set_option linter.unusedVariables false

def apQ (y : Namedt) : Prop := y.name.size ≤ 1048576 ∧ y.rel.rows.length ≤ 300 ∧ (∀ row ∈ y.rel.rows, smallRow row) ∧ ∀ row ∈ y.rel.rows, ∀ v ∈ row, valOk v = true
section
variable {s : Storet} {d : Deltat} {out : List Namedt} {k : Nat}
theorem fits_store (h : deltaFits s d = true) : storeOk s = true := by
  simp only [deltaFits, Bool.and_eq_true] at h; exact h.1
theorem fits_delta (h : deltaFits s d = true) : deltaOk d = true := by
  simp only [deltaFits, Bool.and_eq_true] at h; exact h.2.1
theorem fits_max (h : deltaFits s d = true) : d.changes.length ≤ 24 := by
  have := fits_delta h
  simp only [deltaOk, Bool.and_eq_true, decide_eq_true_eq] at this
  exact this.2
theorem apQ_start (hs : smallStore s) (ok : storeOk s = true) : ∀ y ∈ s.rels, apQ y := fun y hy => by
  obtain ⟨j, hj, rfl⟩ := List.getElem_of_mem hy
  have hr := storeOk_rel ok hj
  have hm := hs.2 _ (List.getElem_mem hj)
  exact ⟨hm.1, (relOk_parts hr).2.2.2, hm.2.2, relOk_vals2 hr⟩
theorem apply_in (hq : ∀ y ∈ out, apQ y) (n : ByteArray) : (namedIn out n).1.rows.length ≤ 300 ∧ (∀ row ∈ (namedIn out n).1.rows, smallRow row) ∧ ∀ row ∈ (namedIn out n).1.rows, ∀ v ∈ row, valOk v = true := by
  cases h : (namedIn out n).2
  · rw [namedIn_miss h]
    exact ⟨Nat.zero_le _, fun r hr => (by cases hr), fun r hr => (by cases hr)⟩
  · obtain ⟨x, hx, e⟩ := namedIn_mem h
    rw [e]
    exact (hq x hx).2
theorem apply_store (hq : ∀ y ∈ out, apQ y) (hl : out.length ≤ 1048576) : smallStore ⟨out⟩ := ⟨hl, fun y hy => ⟨(hq y hy).1, ⟨Nat.le_trans (hq y hy).2.1 (by decide), (hq y hy).2.2.1⟩⟩⟩
theorem apply_r (hq : ∀ y ∈ out, apQ y) {n : ByteArray} : smallRel (namedIn out n).1 := ⟨Nat.le_trans (apply_in hq n).1 (by decide), (apply_in hq n).2.1⟩
theorem apply_rv (hq : ∀ y ∈ out, apQ y) {n : ByteArray} : ∀ r ∈ (namedIn out n).1.rows, ∀ v ∈ r, valOk v = true := (apply_in hq n).2.2
theorem apply_c (hf : deltaFits s d = true) (hk : k < d.changes.length) : relOk d.changes[k].plus = true ∧ relOk d.changes[k].minus = true := by
  have := deltaOk_two (fits_delta hf) hk
  exact ⟨two_left this, two_right this⟩
theorem apply_m (hf : deltaFits s d = true) (hk : k < d.changes.length) : d.changes[k].minus.rows.length ≤ 1048576 ∧ Sorted d.changes[k].minus.rows :=
  ⟨Nat.le_trans (relOk_parts (apply_c hf hk).2).2.2.2 (by decide), relOk_sorted (apply_c hf hk).2⟩
theorem apply_two (hq : ∀ y ∈ out, apQ y) (hf : deltaFits s d = true) (hk : k < d.changes.length) : (nextRows (namedIn out d.changes[k].name).1 d.changes[k]).length ≤ 600 := by
  have h1 := (apply_in hq d.changes[k].name).1
  have h2 := (relOk_parts (apply_c hf hk).1).2.2.2
  have h3 := List.length_filter_le (fun row => !hasRow d.changes[k].minus.rows row) (namedIn out d.changes[k].name).1.rows
  unfold nextRows
  rw [List.length_append]; omega
theorem flat_two {a b : List (List Val)} : [a, b].flatten = a ++ b := by simp
theorem apply_len (hq : ∀ y ∈ out, apQ y) (hf : deltaFits s d = true) (hk : k < d.changes.length) : [((namedIn out d.changes[k].name).1.rows.filter fun row => !hasRow d.changes[k].minus.rows row), d.changes[k].plus.rows].flatten.length ≤ 2097152 := by
  rw [flat_two]
  have := apply_two hq hf hk
  unfold nextRows at this
  omega
theorem apply_vals (hq : ∀ y ∈ out, apQ y) (hf : deltaFits s d = true) (hk : k < d.changes.length) : ValsOk (nextRows (namedIn out d.changes[k].name).1 d.changes[k]) := fun r hr => by
  rcases List.mem_append.1 hr with q | q
  · exact apply_rv hq r (List.mem_filter.1 q).1
  · exact relOk_vals2 (apply_c hf hk).1 r q
theorem apply_rows (hq : ∀ y ∈ out, apQ y) (hf : deltaFits s d = true) (hd : smallDelta d) (hk : k < d.changes.length) : ∀ r ∈ nextRows (namedIn out d.changes[k].name).1 d.changes[k], smallRow r := fun r hr => by
  rcases List.mem_append.1 hr with q | q
  · exact (apply_in hq _).2.1 r (List.mem_filter.1 q).1
  · exact (hd.2 _ (List.getElem_mem hk)).2.1.2 r q
theorem apply_small (hq : ∀ y ∈ out, apQ y) (hf : deltaFits s d = true) (hd : smallDelta d) (hk : k < d.changes.length) {ar : Int} : smallRel ⟨ar, nextRows (namedIn out d.changes[k].name).1 d.changes[k]⟩ :=
  ⟨by have := apply_two hq hf hk; show (nextRows _ _).length ≤ _; omega, apply_rows hq hf hd hk⟩
theorem apQ_next (hq : ∀ y ∈ out, apQ y) (hf : deltaFits s d = true) (hd : smallDelta d) (hk : k < d.changes.length) (h : (nextRel out d.changes[k]).2 = true) : apQ ⟨d.changes[k].name, (nextRel out d.changes[k]).1⟩ := by
  obtain ⟨e, hl⟩ := relOf_true h
  have hr : (nextRel out d.changes[k]).1 = ⟨(namedIn out d.changes[k].name).1.arity, sortRows (nextRows (namedIn out d.changes[k].name).1 d.changes[k])⟩ := congrArg Prod.fst e
  rw [hr]
  exact ⟨(hd.2 _ (List.getElem_mem hk)).1, hl, fun r hr => apply_rows hq hf hd hk r (sortRows_mem.1 hr), fun r hr => apply_vals hq hf hk r (sortRows_mem.1 hr)⟩
theorem withRel_all {p : Namedt → Prop} {nw : Namedt} (h1 : p nw) (h2 : ∀ y ∈ out, p y) : ∀ y ∈ withRel out nw, p y := fun y hy => by
  unfold withRel at hy
  split at hy
  · rcases List.mem_or_eq_of_mem_set hy with q | q
    · exact h2 y q
    · rw [q]; exact h1
  · rcases List.mem_append.1 hy with q | q
    · rcases List.mem_append.1 q with q | q
      · exact h2 y (List.mem_of_mem_take q)
      · rw [List.mem_singleton.1 q]; exact h1
    · exact h2 y (List.mem_of_mem_drop q)
theorem withRel_len {nw : Namedt} : (withRel out nw).length ≤ out.length + 1 := by
  unfold withRel
  split
  · simp
  · simp; omega
end
theorem deltaOf_sm {a b : Storet} (ha : smallStore a) (hb : smallStore b) : smallDelta (deltaOf a b).1 := by
  unfold deltaOf; split
  · refine ⟨Nat.le_trans ofTo_len ha.1, fun c hc => ?_⟩
    unfold ofTo filtTo at hc
    have hc := List.mem_of_mem_take (List.mem_filter.1 hc).1
    obtain ⟨j, hj, rfl⟩ := List.getElem_of_mem hc
    rw [List.getElem_zipWith]
    rw [List.length_zipWith] at hj
    exact ofAt_small (ha.2 _ (List.getElem_mem (l := a.rels) (n := j) (by omega))) (hb.2 _ (List.getElem_mem (l := b.rels) (n := j) (by omega)))
  · exact ⟨Nat.zero_le _, fun c hc => (by cases hc)⟩
end Go.Proofs.YtibhoanjglfaoaaGreat

/- Deltas applied, in plain words: the reference's way is the program's; sizes. -/
namespace Go.Proofs.YtibhoanjglfaoaaGreat
open Go.RowKit
set_option linter.unusedVariables false

theorem SortedN.pw {l : List Namedt} : SortedN l ↔ l.Pairwise (fun x y => nlt x.name y.name) :=
  ⟨fun h => List.pairwise_iff_getElem.2 fun i j hi hj hij => h i j hi hj hij, fun h i j hi hj hij => List.pairwise_iff_getElem.1 h i j hi hj hij⟩
theorem withRel_sorted {rels : List Namedt} {nw : Namedt} (hs : SortedN rels) : SortedN (withRel rels nw) := by
  obtain ⟨p1, p2, p3, p4, p5⟩ := placeN_is rels nw.name
  unfold withRel
  split
  · rename_i h
    have e : rels.getD (posN rels nw.name) noNamed = rels[posN rels nw.name] := by simp [List.getD, h.1]
    rw [e] at h
    have hn := name_eq.1 h.2
    refine sortedN_like hs (by simp) fun j h1 h2 => ?_
    rw [List.getElem_set]
    split
    · rename_i hj; subst hj; exact hn.symm
    · rfl
  · rename_i h
    have hne : ∀ hl : posN rels nw.name < rels.length, rels[posN rels nw.name].name ≠ nw.name := fun hl hq => by
      have e : rels.getD (posN rels nw.name) noNamed = rels[posN rels nw.name] := by simp [List.getD, hl]
      rw [e] at h
      exact h ⟨hl, name_eq.2 hq⟩
    have hsp := SortedN.pw.1 hs
    rw [← List.take_append_drop (posN rels nw.name) rels] at hsp
    obtain ⟨q1, q2, q3⟩ := List.pairwise_append.1 hsp
    have lo : ∀ a ∈ rels.take (posN rels nw.name), nlt a.name nw.name := fun a ha => by
      obtain ⟨j, hj, rfl⟩ := List.getElem_of_mem ha
      rw [List.length_take] at hj
      rw [List.getElem_take]
      exact p4 j (by omega) (by omega)
    have hi : ∀ b ∈ rels.drop (posN rels nw.name), nlt nw.name b.name := fun b hb => by
      obtain ⟨j, hj, rfl⟩ := List.getElem_of_mem hb
      rw [List.length_drop] at hj
      rw [List.getElem_drop]
      have hl : posN rels nw.name < rels.length := by omega
      have h0 : nlt nw.name rels[posN rels nw.name].name := Classical.byContradiction fun hq => hne hl (nlt_tri (p5 hl) hq)
      by_cases e0 : j = 0
      · subst e0; exact h0
      · exact nmlt_trans h0 (hs _ _ hl (by omega) (by omega))
    refine SortedN.pw.2 (List.pairwise_append.2 ⟨List.pairwise_append.2 ⟨q1, List.pairwise_singleton _ _, fun a ha b hb => ?_⟩, q2, fun a ha b hb => ?_⟩)
    · rw [List.mem_singleton.1 hb]; exact lo a ha
    · rcases List.mem_append.1 ha with ha | ha
      · exact q3 a ha b hb
      · rw [List.mem_singleton.1 ha]; exact hi b hb
/-- What the store has while it turns. -/
structure ApI (out : List Namedt) : Prop where
  q : ∀ y ∈ out, apQ y
  r : ∀ y ∈ out, Sorted y.rel.rows
  n : SortedN out
section
variable {s : Storet} {d : Deltat} {out : List Namedt} {k : Nat}
theorem ApI.start (hs : smallStore s) (ok : storeOk s = true) : ApI s.rels := ⟨apQ_start hs ok, fun y hy => by
  obtain ⟨j, hj, rfl⟩ := List.getElem_of_mem hy
  exact relOk_sorted (storeOk_rel ok hj), storeOk_names ok⟩
theorem ApI.inS (h : ApI out) (n : ByteArray) : Sorted (namedIn out n).1.rows := by
  cases e : (namedIn out n).2
  · rw [namedIn_miss e]; exact Sorted.nil
  · obtain ⟨x, hx, e⟩ := namedIn_mem e
    rw [e]; exact h.r x hx
def keptRows (r : Relt) (c : Changet) : List (List Val) := r.rows.filter fun row => !hasRow c.minus.rows row
theorem ApI.kept (h : ApI out) (c : Changet) : Sorted (keptRows (namedIn out c.name).1 c) :=
  Sorted.of_pw (fun r hr => apply_rv h.q r (List.mem_filter.1 hr).1) ((h.inS c.name).pw.sublist List.filter_sublist)
theorem ApI.next (h : ApI out) (hf : deltaFits s d = true) (hd : smallDelta d) (hk : k < d.changes.length) (h2 : (nextRel out d.changes[k]).2 = true) : ApI (withRel out ⟨d.changes[k].name, (nextRel out d.changes[k]).1⟩) := by
  refine ⟨withRel_all (apQ_next h.q hf hd hk h2) h.q, withRel_all ?_ h.r, withRel_sorted h.n⟩
  obtain ⟨e, _⟩ := relOf_true h2
  show Sorted (nextRel out d.changes[k]).1.rows
  have e1 : (nextRel out d.changes[k]).1 = ⟨(namedIn out d.changes[k].name).1.arity, sortRows (nextRows (namedIn out d.changes[k].name).1 d.changes[k])⟩ := congrArg Prod.fst e
  rw [e1]
  exact sortRows_sorted (apply_vals h.q hf hk)
end
end Go.Proofs.YtibhoanjglfaoaaGreat

/- Stable sorting in plain words: elements put in from the right, one after the other; ranges merged, rotated, exchanged. -/
namespace Go.Proofs.YtibhoanjglfaoaaGreat
open Go.RowKit
set_option linter.unusedVariables false
set_option linter.unusedSimpArgs false

section
variable {α : Type} {lt : α → α → Bool}
/-- What the order must be: none is below itself two steps round; what is not below is passed on. -/
structure Wk (lt : α → α → Bool) : Prop where
  asym : ∀ x y, lt x y = true → lt y x = false
  neg : ∀ x y z, lt y x = false → lt z y = false → lt z x = false
theorem Wk.trans (h : Wk lt) {x y z : α} (h1 : lt x y = true) (h2 : lt z y = false) : lt x z = true := by
  cases q : lt x z
  · have := h.neg y z x h2 q
    rw [h1] at this; cases this
  · rfl
theorem Wk.trans' (h : Wk lt) {x y z : α} (h1 : lt y x = false) (h2 : lt y z = true) : lt x z = true := by
  cases q : lt x z
  · have := h.neg z x y q h1
    rw [h2] at this; cases this
  · rfl
theorem Wk.irr (h : Wk lt) (x : α) : lt x x = false := by
  cases q : lt x x
  · rfl
  · have := h.asym x x q
    rw [q] at this; cases this
def Srt (lt : α → α → Bool) (l : List α) : Prop := l.Pairwise fun x y => lt y x = false
def insR (lt : α → α → Bool) : List α → α → List α
  | [], x => [x]
  | y :: l, x => if lt x y = true then x :: y :: l else y :: insR lt l x
def mergeI (lt : α → α → Bool) (a b : List α) : List α := b.foldl (insR lt) a
def isort (lt : α → α → Bool) (l : List α) : List α := mergeI lt [] l
theorem insR_at : ∀ {u v : List α} {x : α}, (∀ y ∈ u, lt x y = false) → (∀ y ∈ v.head?, lt x y = true) → insR lt (u ++ v) x = u ++ x :: v
  | [], [], x, _, _ => rfl
  | [], y :: v, x, _, h => if_pos (h y rfl)
  | y :: u, v, x, h, h2 => by
    rw [List.cons_append, insR, if_neg (by rw [h y (by simp)]; simp), insR_at (fun z hz => h z (by simp [hz])) h2]; rfl
theorem insR_perm : ∀ {l : List α} {x : α}, (insR lt l x).Perm (x :: l)
  | [], x => List.Perm.refl _
  | y :: l, x => by
    unfold insR
    split
    · exact List.Perm.refl _
    · exact (insR_perm.cons y).trans (List.Perm.swap x y l)
theorem insR_mem {l : List α} {x z : α} : z ∈ insR lt l x ↔ z = x ∨ z ∈ l := by rw [insR_perm.mem_iff, List.mem_cons]
theorem insR_srt (h : Wk lt) : ∀ {l : List α} {x : α}, Srt lt l → Srt lt (insR lt l x)
  | [], x, _ => List.pairwise_singleton _ _
  | y :: l, x, hs => by
    obtain ⟨h1, h2⟩ := List.pairwise_cons.1 hs
    unfold insR
    split
    · rename_i hx
      refine List.pairwise_cons.2 ⟨fun z hz => ?_, hs⟩
      rcases List.mem_cons.1 hz with rfl | hz
      · exact h.asym _ _ hx
      · exact h.neg _ _ _ (h.asym _ _ hx) (h1 z hz)
    · rename_i hx
      refine List.pairwise_cons.2 ⟨fun z hz => ?_, insR_srt h h2⟩
      rcases insR_mem.1 hz with rfl | hz
      · simpa using hx
      · exact h1 z hz
theorem mergeI_srt (h : Wk lt) : ∀ {b a : List α}, Srt lt a → Srt lt (mergeI lt a b)
  | [], a, hs => hs
  | x :: b, a, hs => mergeI_srt h (b := b) (insR_srt h hs)
theorem mergeI_perm : ∀ {b a : List α}, (mergeI lt a b).Perm (a ++ b)
  | [], a => by rw [List.append_nil]; exact List.Perm.refl _
  | x :: b, a => by
    have h1 : (mergeI lt (insR lt a x) b).Perm (insR lt a x ++ b) := mergeI_perm
    refine h1.trans ((insR_perm.append_right b).trans ?_)
    exact List.perm_middle.symm
theorem mergeI_mem {a b : List α} {z : α} : z ∈ mergeI lt a b ↔ z ∈ a ∨ z ∈ b := by rw [mergeI_perm.mem_iff, List.mem_append]
theorem mergeI_len {a b : List α} : (mergeI lt a b).length = a.length + b.length := by rw [mergeI_perm.length_eq, List.length_append]
theorem isort_perm {l : List α} : (isort lt l).Perm l := mergeI_perm
theorem isort_len {l : List α} : (isort lt l).length = l.length := isort_perm.length_eq
theorem isort_srt (h : Wk lt) {l : List α} : Srt lt (isort lt l) := mergeI_srt h List.Pairwise.nil
theorem mergeI_app {a b c : List α} : mergeI lt a (b ++ c) = mergeI lt (mergeI lt a b) c := List.foldl_append
theorem isort_snoc {l : List α} {x : α} : isort lt (l ++ [x]) = insR lt (isort lt l) x := mergeI_app
/-- A sorted list, where x goes in. -/
theorem insR_split (h : Wk lt) : ∀ {l : List α} {x : α}, Srt lt l → ∃ u v, l = u ++ v ∧ (∀ y ∈ u, lt x y = false) ∧ ∀ y ∈ v, lt x y = true
  | [], x, _ => ⟨[], [], rfl, by simp, by simp⟩
  | y :: l, x, hs => by
    obtain ⟨h1, h2⟩ := List.pairwise_cons.1 hs
    cases hx : lt x y
    · obtain ⟨u, v, e, hu, hv⟩ := insR_split h (x := x) h2
      refine ⟨y :: u, v, by rw [e]; rfl, fun z hz => ?_, hv⟩
      rcases List.mem_cons.1 hz with rfl | hz
      · exact hx
      · exact hu z hz
    · refine ⟨[], y :: l, rfl, by simp, fun z hz => ?_⟩
      rcases List.mem_cons.1 hz with rfl | hz
      · exact hx
      · exact h.trans hx (h1 z hz)
theorem insR_all {u v : List α} {x : α} (hu : ∀ y ∈ u, lt x y = false) (hv : ∀ y ∈ v, lt x y = true) : insR lt (u ++ v) x = u ++ x :: v :=
  insR_at hu fun y hy => hv y (List.mem_of_mem_head? hy)
theorem insR_comm (h : Wk lt) {t : List α} {x s : α} (ht : Srt lt t) (hx : lt x s = true) : insR lt (insR lt t x) s = insR lt (insR lt t s) x := by
  obtain ⟨u, v, rfl, hu, hv⟩ := insR_split h (x := x) ht
  have hvs : Srt lt v := (List.pairwise_append.1 ht).2.1
  obtain ⟨v1, v2, rfl, h1, h2⟩ := insR_split h (x := s) hvs
  have hus : ∀ y ∈ u, lt s y = false := fun y hy => by
    cases q : lt s y
    · rfl
    · have h3 := h.asym s y q
      have : lt x y = true := h.trans hx h3
      rw [hu y hy] at this; cases this
  rw [insR_all hu hv]
  have e1 : u ++ x :: (v1 ++ v2) = (u ++ x :: v1) ++ v2 := by simp
  rw [e1, insR_all (fun y hy => ?_) h2]
  · have e2 : u ++ (v1 ++ v2) = (u ++ v1) ++ v2 := by simp
    rw [e2, insR_all (u := u ++ v1) (fun y hy => ?_) h2]
    · have e3 : u ++ v1 ++ s :: v2 = u ++ (v1 ++ s :: v2) := by simp
      rw [e3, insR_all hu (fun y hy => ?_)]
      · simp
      · rcases List.mem_append.1 hy with hy | hy
        · exact hv y (by simp [hy])
        · rcases List.mem_cons.1 hy with rfl | hy
          · exact hx
          · exact hv y (by simp [hy])
    · rcases List.mem_append.1 hy with hy | hy
      · exact hus y hy
      · exact h1 y hy
  · rcases List.mem_append.1 hy with hy | hy
    · exact hus y hy
    · rcases List.mem_cons.1 hy with rfl | hy
      · exact h.asym _ _ hx
      · exact h1 y hy
theorem mergeI_past (h : Wk lt) {x : α} : ∀ {v t : List α}, Srt lt t → (∀ y ∈ v, lt x y = true) → mergeI lt (insR lt t x) v = insR lt (mergeI lt t v) x
  | [], t, _, _ => rfl
  | s :: v, t, ht, hv => by
    show mergeI lt (insR lt (insR lt t x) s) v = insR lt (mergeI lt (insR lt t s) v) x
    rw [insR_comm h ht (hv s (by simp))]
    exact mergeI_past h (insR_srt h ht) fun y hy => hv y (by simp [hy])
/-- Merging what was put in order is putting in one after the other. -/
theorem mergeI_ins (h : Wk lt) {a s : List α} {x : α} (ha : Srt lt a) (hs : Srt lt s) : mergeI lt a (insR lt s x) = insR lt (mergeI lt a s) x := by
  obtain ⟨u, v, rfl, hu, hv⟩ := insR_split h (x := x) hs
  rw [insR_all hu hv, mergeI_app, mergeI_app]
  exact mergeI_past h (mergeI_srt h ha) hv
theorem mergeI_isort (h : Wk lt) {a : List α} (ha : Srt lt a) (l : List α) : mergeI lt a (isort lt l) = mergeI lt a l := by
  have key : ∀ (r s : List α), Srt lt s → mergeI lt a (mergeI lt s r) = mergeI lt (mergeI lt a s) r := fun r => by
    induction r with
    | nil => intro s _; rfl
    | cons x r ih =>
      intro s hs
      show mergeI lt a (mergeI lt (insR lt s x) r) = mergeI lt (insR lt (mergeI lt a s) x) r
      rw [ih _ (insR_srt h hs), mergeI_ins h ha hs]
  exact key l [] List.Pairwise.nil
theorem isort_app (h : Wk lt) {l m : List α} : mergeI lt (isort lt l) (isort lt m) = isort lt (l ++ m) := by
  rw [mergeI_isort h (isort_srt h)]; exact mergeI_app.symm
/-- One element on the left. -/
theorem mergeI_one : ∀ {b c : List α} {i : Nat} {x : α}, Srt lt (c ++ b) → (∀ y ∈ c, lt x y = false) → (∀ j (hj : j < b.length), j < i → lt b[j] x = true) → (∀ j (hj : j < b.length), i ≤ j → lt b[j] x = false) → i ≤ b.length → mergeI lt (c ++ [x]) b = c ++ b.take i ++ x :: b.drop i := fun {b} => by
  intro c i x hs hc h1 h2 hi
  have sp := List.pairwise_append.1 hs
  have front : ∀ (u c : List α), Srt lt (c ++ u) → (∀ y ∈ u, lt y x = true) → mergeI lt (c ++ [x]) u = c ++ u ++ [x] := fun u => by
    induction u with
    | nil => intro c _ _; simp [mergeI]
    | cons y u ih =>
      intro c hs hu
      have e : insR lt (c ++ [x]) y = (c ++ [y]) ++ [x] := by
        rw [insR_all (fun z hz => (List.pairwise_append.1 hs).2.2 z hz y (by simp)) (fun z hz => by rw [List.mem_singleton.1 hz]; exact hu y (by simp))]
        simp
      show mergeI lt (insR lt (c ++ [x]) y) u = _
      rw [e, ih (c ++ [y]) (by simpa using hs) fun z hz => hu z (by simp [hz])]
      simp
  have back : ∀ (v t : List α), Srt lt v → (∀ y ∈ v, ∀ z ∈ t, lt y z = false) → mergeI lt t v = t ++ v := fun v => by
    induction v with
    | nil => intro t _ _; simp [mergeI]
    | cons y v ih =>
      intro t hs hv
      have e : insR lt t y = t ++ [y] := by
        have := insR_all (lt := lt) (u := t) (v := []) (x := y) (fun z hz => hv y (by simp) z hz) (by simp)
        rwa [List.append_nil] at this
      obtain ⟨g1, g2⟩ := List.pairwise_cons.1 hs
      show mergeI lt (insR lt t y) v = _
      rw [e, ih (t ++ [y]) g2 fun z hz w hw => ?_]
      · simp
      · rcases List.mem_append.1 hw with hw | hw
        · exact hv z (by simp [hz]) w hw
        · rw [List.mem_singleton.1 hw]; exact g1 z hz
  have e0 : b.take i ++ b.drop i = b := List.take_append_drop i b
  have hs2 : Srt lt (b.take i ++ b.drop i) := by rw [e0]; exact sp.2.1
  have sp2 := List.pairwise_append.1 hs2
  have m1 : ∀ y ∈ b.take i, lt y x = true := fun y hy => by
    obtain ⟨j, hj, rfl⟩ := List.getElem_of_mem hy
    rw [List.length_take] at hj
    rw [List.getElem_take]; exact h1 j (by omega) (by omega)
  have m2 : ∀ y ∈ b.drop i, lt y x = false := fun y hy => by
    obtain ⟨j, hj, rfl⟩ := List.getElem_of_mem hy
    rw [List.length_drop] at hj
    rw [List.getElem_drop]; exact h2 (i + j) (by omega) (by omega)
  conv => lhs; rw [← e0]
  rw [mergeI_app, front (b.take i) c ?_ m1, back (b.drop i) _ sp2.2.1]
  · simp
  · intro y hy z hz
    rcases List.mem_append.1 hz with hz | hz
    · rcases List.mem_append.1 hz with hz | hz
      · exact sp.2.2 z hz y (List.mem_of_mem_drop hy)
      · exact sp2.2.2 z hz y hy
    · rw [List.mem_singleton.1 hz]; exact m2 y hy
  · refine List.pairwise_append.2 ⟨sp.1, sp2.1, fun z hz y hy => sp.2.2 z hz y (List.mem_of_mem_take hy)⟩
theorem mergeI_single {b : List α} {i : Nat} {x : α} (hs : Srt lt b) (h1 : ∀ j (hj : j < b.length), j < i → lt b[j] x = true) (h2 : ∀ j (hj : j < b.length), i ≤ j → lt b[j] x = false) (hi : i ≤ b.length) : mergeI lt [x] b = b.take i ++ x :: b.drop i :=
  mergeI_one (c := []) hs (by simp) h1 h2 hi
/-- One element on the right. -/
theorem mergeI_last {a : List α} {i : Nat} {x : α} (h1 : ∀ j (hj : j < a.length), j < i → lt x a[j] = false) (h2 : ∀ j (hj : j < a.length), i ≤ j → lt x a[j] = true) (hi : i ≤ a.length) : mergeI lt a [x] = a.take i ++ x :: a.drop i := by
  show insR lt a x = _
  conv => lhs; rw [← List.take_append_drop i a]
  refine insR_all (fun y hy => ?_) fun y hy => ?_
  · obtain ⟨j, hj, rfl⟩ := List.getElem_of_mem hy
    rw [List.length_take] at hj
    rw [List.getElem_take]; exact h1 j (by omega) (by omega)
  · obtain ⟨j, hj, rfl⟩ := List.getElem_of_mem hy
    rw [List.length_drop] at hj
    rw [List.getElem_drop]; exact h2 (i + j) (by omega) (by omega)
/-- Two ranges, each in two parts. -/
theorem mergeI_parts {a1 a2 b1 b2 : List α} (h1 : ∀ x ∈ b1, ∀ y ∈ a2, lt x y = true) (h2 : ∀ x ∈ b2, ∀ y ∈ a1, lt x y = false) (h3 : ∀ x ∈ b2, ∀ y ∈ b1, lt x y = false) : mergeI lt (a1 ++ a2) (b1 ++ b2) = mergeI lt a1 b1 ++ mergeI lt a2 b2 := by
  have left : ∀ (t : List α) (x : α), (∀ y ∈ a2, lt x y = true) → insR lt (t ++ a2) x = insR lt t x ++ a2 := fun t x hx => by
    induction t with
    | nil =>
      cases a2 with
      | nil => rfl
      | cons y a2 => exact if_pos (hx y (by simp))
    | cons z t ih =>
      rw [List.cons_append, insR, insR]
      split
      · rfl
      · rw [ih]; rfl
  have L : ∀ (b t : List α), (∀ x ∈ b, ∀ y ∈ a2, lt x y = true) → mergeI lt (t ++ a2) b = mergeI lt t b ++ a2 := fun b => by
    induction b with
    | nil => intro t _; rfl
    | cons x b ih =>
      intro t hb
      show mergeI lt (insR lt (t ++ a2) x) b = mergeI lt (insR lt t x) b ++ a2
      rw [left t x (hb x (by simp)), ih _ fun z hz => hb z (by simp [hz])]
  have right : ∀ (t u : List α) (x : α), (∀ y ∈ t, lt x y = false) → insR lt (t ++ u) x = t ++ insR lt u x := fun t u x hx => by
    induction t with
    | nil => rfl
    | cons z t ih =>
      rw [List.cons_append, insR, if_neg (by rw [hx z (by simp)]; simp), ih fun y hy => hx y (by simp [hy])]; rfl
  have R : ∀ (b t u : List α), (∀ x ∈ b, ∀ y ∈ t, lt x y = false) → mergeI lt (t ++ u) b = t ++ mergeI lt u b := fun b => by
    induction b with
    | nil => intro t u _; rfl
    | cons x b ih =>
      intro t u hb
      show mergeI lt (insR lt (t ++ u) x) b = t ++ mergeI lt (insR lt u x) b
      rw [right t u x (hb x (by simp)), ih t _ fun z hz => hb z (by simp [hz])]
  rw [mergeI_app, L b1 a1 h1, R b2 _ a2 fun x hx y hy => ?_]
  rcases mergeI_mem.1 hy with hy | hy
  · exact h2 x hx y hy
  · exact h3 x hx y hy
theorem Srt.left {a b : List α} (h : Srt lt (a ++ b)) : Srt lt a := (List.pairwise_append.1 h).1
theorem Srt.right {a b : List α} (h : Srt lt (a ++ b)) : Srt lt b := (List.pairwise_append.1 h).2.1
theorem Srt.get {a : List α} (h : Srt lt a) (hw : Wk lt) {i j : Nat} (hj : j < a.length) (hij : i ≤ j) : lt a[j] (a[i]'(by omega)) = false := by
  by_cases e : i = j
  · subst e; exact hw.irr _
  · exact List.pairwise_iff_getElem.1 h i j (by omega) hj (by omega)
end
end Go.Proofs.YtibhoanjglfaoaaGreat

/- Two deltas in one, in plain words. -/
namespace Go.Proofs.YtibhoanjglfaoaaGreat
open Go.RowKit
set_option linter.unusedVariables false
set_option linter.unusedSimpArgs false

def ltC (x y : Changet) : Bool := Op.bytesLess x.name.toList y.name.toList
theorem ltC_iff {x y : Changet} : ltC x y = true ↔ nlt x.name y.name := Iff.rfl
theorem ltC_no {x y : Changet} : ltC x y = false ↔ ¬ nlt x.name y.name := by
  unfold nlt ltC; simp
theorem wkC : Wk ltC where
  asym x y h := ltC_no.2 fun q => nlt_irr (nmlt_trans (ltC_iff.1 h) q)
  neg x y z h1 h2 := ltC_no.2 fun q => by
    have h1 := ltC_no.1 h1
    have h2 := ltC_no.1 h2
    by_cases e : nlt x.name y.name
    · exact h2 (nmlt_trans q e)
    · have := nlt_tri h1 e
      rw [this] at h2; exact h2 q
def cmpC (x y : Changet) : Int := if ltC x y = true then -1 else if ltC y x = true then 1 else 0
theorem cmpC_lt {x y : Changet} (h : ltC x y = true) : cmpC x y = -1 := if_pos h
theorem cmpC_gt {x y : Changet} (h : ltC x y = false) (h2 : ltC y x = true) : cmpC x y = 1 := by simp [cmpC, h, h2]
theorem cmpC_eq {x y : Changet} (h : ltC x y = false) (h2 : ltC y x = false) : cmpC x y = 0 := by simp [cmpC, h, h2]
theorem cmpC_gt' {x y : Changet} (h : ltC x y = false) (h2 : (Op.bytesLess x.name.toList y.name.toList || x.name == y.name) = false) : cmpC x y = 1 := by
  simp only [Bool.or_eq_false_iff] at h2
  refine cmpC_gt h (Classical.byContradiction fun q => ?_)
  have e := nlt_tri (ltC_no.1 h) (ltC_no.1 (by simpa using q))
  exact name_ne.1 h2.2 e
theorem cmpC_eq' {x y : Changet} (h : ltC x y = false) (h2 : (Op.bytesLess x.name.toList y.name.toList || x.name == y.name) = true) : cmpC x y = 0 := by
  have h3 : Op.bytesLess x.name.toList y.name.toList = false := h
  rw [h3, Bool.false_or] at h2
  have e := name_eq.1 h2
  refine cmpC_eq h ?_
  unfold ltC
  rw [← e]
  have : ltC x x = false := wkC.irr x
  exact this
theorem cmpC_yes {x y : Changet} (h : cmpC x y < 0) : ltC x y = true := by
  unfold cmpC at h
  cases q : ltC x y
  · rw [q] at h; simp at h; split at h <;> omega
  · rfl
theorem cmpC_no {x y : Changet} (h : 0 ≤ cmpC x y) : ltC x y = false := by
  cases q : ltC x y
  · rfl
  · rw [cmpC_lt q] at h; exact absurd h (by decide)
/-! ### Names once -/
section
variable {us : List Changet}
def onceC (us : List Changet) : Nat → List Changet
  | 0 => []
  | 1 => us.take 1
  | k + 2 => if (us.map Changet.name).getD (k + 1) ⟨#[]⟩ = (us.map Changet.name).getD k ⟨#[]⟩ then onceC us (k + 1) else onceC us (k + 1) ++ (us.drop (k + 1)).take 1
theorem onceC_len : ∀ {k : Nat}, (onceC us k).length ≤ k
  | 0 => by simp [onceC]
  | 1 => by simp [onceC]; omega
  | k + 2 => by
    have := onceC_len (k := k + 1)
    rw [onceC]; split
    · omega
    · simp; omega
theorem onceC_same {k : Nat} (h1 : 0 < k) (hk : k < us.length) (h : us[k].name = (us[k - 1]'(by omega)).name) : onceC us (k + 1) = onceC us k := by
  obtain ⟨j, rfl⟩ : ∃ j, k = j + 1 := ⟨k - 1, by omega⟩
  simp only [Nat.add_sub_cancel] at h
  rw [onceC, if_pos (by simp [List.getD, hk, show j < us.length by omega, h])]
theorem onceC_new {k : Nat} (h1 : 0 < k) (hk : k < us.length) (h : ¬ us[k].name = (us[k - 1]'(by omega)).name) : onceC us (k + 1) = onceC us k ++ [us[k]] := by
  obtain ⟨j, rfl⟩ : ∃ j, k = j + 1 := ⟨k - 1, by omega⟩
  simp only [Nat.add_sub_cancel] at h
  rw [onceC, if_neg (by simp [List.getD, hk, show j < us.length by omega, h]), List.drop_eq_getElem_cons hk]; rfl
def PlainC (us : List Changet) (k : Nat) : Prop := onceC us k = us.take k
theorem PlainC.one : PlainC us 1 := rfl
theorem PlainC.succ {k : Nat} (h : PlainC us k) (h1 : 0 < k) (hk : k < us.length) (hn : (us[k].name == (us[k - 1]'(by omega)).name) = false) : PlainC us (k + 1) := by
  unfold PlainC
  rw [onceC_new h1 hk (name_ne.1 hn), h, List.take_succ_eq_append_getElem hk]
theorem PlainC.all {k : Nat} (h : PlainC us k) (hk : us.length ≤ k) (hk2 : k ≤ us.length) : us = onceC us us.length := by
  obtain rfl : k = us.length := by omega
  rw [h, List.take_length]
theorem onceC_short (h : us.length < 2) : us = onceC us us.length := by
  match us, h with
  | [], _ => rfl
  | [a], _ => rfl
def onceA (us : List Changet) (j : Nat) : List Changet := onceC us j ++ us.drop (onceC us j).length
theorem onceA_len {j : Nat} (hj : j ≤ us.length) : (onceA us j).length = us.length := by
  have := onceC_len (us := us) (k := j)
  simp [onceA]; omega
theorem onceA_at {j i : Nat} (hj : j ≤ us.length) (hi : i < us.length) (h : (onceC us j).length ≤ i) (h' : i < (onceA us j).length) : (onceA us j)[i] = us[i] := by
  have q : (onceA us j)[i]? = us[i]? := by
    unfold onceA
    rw [List.getElem?_append_right h, List.getElem?_drop]
    congr 1; omega
  rw [List.getElem?_eq_getElem h', List.getElem?_eq_getElem hi] at q
  exact Option.some.inj q
theorem onceC_dup {k : Nat} (h : PlainC us k) (h1 : 0 < k) (hk : k < us.length) (hs : (us[k].name == (us[k - 1]'(by omega)).name) = true) : (onceC us (k + 1)).length = k ∧ us = onceA us (k + 1) := by
  have e : onceC us (k + 1) = us.take k := by rw [onceC_same h1 hk (name_eq.1 hs), h]
  have el : (onceC us (k + 1)).length = k := by rw [e]; simp; omega
  refine ⟨el, ?_⟩
  unfold onceA
  rw [el, e, List.take_append_drop]
theorem onceC_skip {j : Nat} (h1 : 0 < j) (hj : j < us.length) (hs : (us[j].name == (us[j - 1]'(by omega)).name) = true) : onceC us (j + 1) = onceC us j := onceC_same h1 hj (name_eq.1 hs)
theorem onceA_put {j : Nat} (h1 : 0 < j) (hj : j < us.length) (hl : (onceC us j).length < j) (hs : (us[j].name == (us[j - 1]'(by omega)).name) = false) (h' : j < (onceA us j).length) : (onceA us j).set (onceC us j).length ((onceA us j)[j]) = onceA us (j + 1) ∧ (onceC us (j + 1)).length = (onceC us j).length + 1 := by
  have e := onceC_new h1 hj (name_ne.1 hs)
  have e2 := onceA_at (Nat.le_of_lt hj) hj (by omega) h'
  refine ⟨?_, by rw [e]; simp⟩
  rw [e2]
  unfold onceA
  rw [e, List.set_append_right _ _ (Nat.le_refl _), Nat.sub_self, List.drop_eq_getElem_cons (l := us) (i := (onceC us j).length) (by omega), List.set_cons_zero, List.length_append, List.length_singleton, List.append_assoc]
  rfl
theorem onceA_end {j : Nat} (hj : us.length ≤ j) (hj2 : j ≤ us.length) {z : Changet} {n : Nat} : ((onceA us j).take (onceC us j).length ++ List.replicate n z).take (onceC us j).length = onceC us us.length := by
  obtain rfl : j = us.length := by omega
  unfold onceA
  rw [List.take_left' rfl, List.take_left' rfl]
theorem onceC_facts (hs : Srt ltC us) : ∀ k, k + 1 ≤ us.length → (onceC us (k + 1)).Pairwise (fun a b => nlt a.name b.name) ∧ (∀ x ∈ onceC us (k + 1), x ∈ us) ∧ (∀ j (hj : j < us.length), j ≤ k → ∃ x ∈ onceC us (k + 1), x.name = us[j].name) ∧ ∀ x ∈ onceC us (k + 1), x.name = (us.map Changet.name).getD k ⟨#[]⟩ ∨ nlt x.name ((us.map Changet.name).getD k ⟨#[]⟩)
  | 0, hk => by
    have e : onceC us 1 = [us[0]'(by omega)] := by
      show us.take 1 = _
      have := List.take_succ_eq_append_getElem (l := us) (i := 0) (by omega)
      simpa using this
    rw [e]
    refine ⟨List.pairwise_singleton _ _, fun x hx => ?_, fun j hj h0 => ?_, fun x hx => ?_⟩
    · rw [List.mem_singleton.1 hx]; exact List.getElem_mem _
    · obtain rfl : j = 0 := by omega
      exact ⟨_, List.mem_singleton_self _, rfl⟩
    · rw [List.mem_singleton.1 hx]; left
      simp [List.getD, show 0 < us.length by omega]
  | k + 1, hk => by
    obtain ⟨i1, i2, i3, i4⟩ := onceC_facts hs k (by omega)
    have g1 : (us.map Changet.name).getD (k + 1) ⟨#[]⟩ = (us[k + 1]'(by omega)).name := by simp [List.getD, show k + 1 < us.length by omega]
    have g0 : (us.map Changet.name).getD k ⟨#[]⟩ = (us[k]'(by omega)).name := by simp [List.getD, show k < us.length by omega]
    have ord : ¬ nlt (us[k + 1]'(by omega)).name (us[k]'(by omega)).name := ltC_no.1 (hs.get wkC (i := k) (j := k + 1) (by omega) (by omega))
    rw [g0] at i4
    rw [g1]
    by_cases e : (us[k + 1]'(by omega)).name = (us[k]'(by omega)).name
    · rw [onceC_same (k := k + 1) (by omega) (by omega) e]
      refine ⟨i1, i2, fun j hj hjk => ?_, fun x hx => by rw [e]; exact i4 x hx⟩
      by_cases q : j = k + 1
      · subst q
        obtain ⟨x, hx, e2⟩ := i3 k (by omega) (by omega)
        exact ⟨x, hx, by rw [e2, e]⟩
      · exact i3 j hj (by omega)
    · have lt1 : nlt (us[k]'(by omega)).name (us[k + 1]'(by omega)).name := Classical.byContradiction fun q => e (nlt_tri ord q)
      have below : ∀ x ∈ onceC us (k + 1), nlt x.name (us[k + 1]'(by omega)).name := fun x hx => by
        rcases i4 x hx with q | q
        · rw [q]; exact lt1
        · exact nmlt_trans q lt1
      rw [onceC_new (k := k + 1) (by omega) (by omega) e]
      refine ⟨List.pairwise_append.2 ⟨i1, List.pairwise_singleton _ _, fun x hx y hy => by rw [List.mem_singleton.1 hy]; exact below x hx⟩, fun x hx => ?_, fun j hj hjk => ?_, fun x hx => ?_⟩
      · rcases List.mem_append.1 hx with hx | hx
        · exact i2 x hx
        · rw [List.mem_singleton.1 hx]; exact List.getElem_mem _
      · by_cases q : j = k + 1
        · subst q; exact ⟨_, List.mem_append_right _ (List.mem_singleton_self _), rfl⟩
        · obtain ⟨x, hx, e2⟩ := i3 j hj (by omega)
          exact ⟨x, List.mem_append_left _ hx, e2⟩
      · rcases List.mem_append.1 hx with hx | hx
        · exact .inr (below x hx)
        · rw [List.mem_singleton.1 hx]; exact .inl rfl
end
/-- The changes whose names are gone over. -/
def thenAll (a b : Deltat) : List Changet := onceC (isort ltC (a.changes ++ b.changes)) (isort ltC (a.changes ++ b.changes)).length
theorem thenAll_facts (a b : Deltat) : (thenAll a b).Pairwise (fun x y => nlt x.name y.name) ∧ (∀ x ∈ thenAll a b, x ∈ a.changes ∨ x ∈ b.changes) ∧ ∀ c, c ∈ a.changes ∨ c ∈ b.changes → ∃ x ∈ thenAll a b, x.name = c.name := by
  have hs : Srt ltC (isort ltC (a.changes ++ b.changes)) := isort_srt wkC
  have hp : ∀ x, x ∈ isort ltC (a.changes ++ b.changes) ↔ x ∈ a.changes ∨ x ∈ b.changes := fun x => by rw [isort_perm.mem_iff, List.mem_append]
  unfold thenAll
  generalize isort ltC (a.changes ++ b.changes) = us at *
  cases hu : us.length with
  | zero =>
    have : us = [] := List.eq_nil_of_length_eq_zero hu
    subst this
    refine ⟨List.Pairwise.nil, fun x hx => (by cases hx), fun c hc => ?_⟩
    have := (hp c).2 hc
    cases this
  | succ k =>
    obtain ⟨i1, i2, i3, _⟩ := onceC_facts hs k (by omega)
    refine ⟨i1, fun x hx => (hp x).1 (i2 x hx), fun c hc => ?_⟩
    obtain ⟨j, hj, e⟩ := List.getElem_of_mem ((hp c).2 hc)
    obtain ⟨x, hx, e2⟩ := i3 j hj (by omega)
    exact ⟨x, hx, by rw [e2, e]⟩
theorem thenAll_len (a b : Deltat) : (thenAll a b).length ≤ a.changes.length + b.changes.length := by
  unfold thenAll
  refine Nat.le_trans onceC_len ?_
  rw [isort_len, List.length_append]; exact Nat.le_refl _
/-! ### One change out of two -/
def changeOf (d : Deltat) (n : ByteArray) (ar : Int) : Changet := match d.changes.find? (fun c => c.name == n) with | some c => c | none => ⟨n, ⟨ar, []⟩, ⟨ar, []⟩⟩
theorem changeOf_at {d : Deltat} {n : ByteArray} {ar : Int} {k : Nat} (hk : k < d.changes.length) (h : NoneTo (fun c => c.name == n) d.changes k) (hp : (d.changes[k].name == n) = true) : changeOf d n ar = d.changes[k] := by
  unfold changeOf; rw [find_at hk h hp]
theorem changeOf_none {d : Deltat} {n : ByteArray} {ar : Int} {k : Nat} (h : NoneTo (fun c => c.name == n) d.changes k) (hk : d.changes.length ≤ k) : changeOf d n ar = ⟨n, ⟨ar, []⟩, ⟨ar, []⟩⟩ := by
  unfold changeOf; rw [find_none h hk]
theorem changeOf_cases (d : Deltat) (n : ByteArray) (ar : Int) : (changeOf d n ar ∈ d.changes ∧ (changeOf d n ar).name = n ∧ ∀ ar', changeOf d n ar' = changeOf d n ar) ∨ ((∀ c ∈ d.changes, c.name ≠ n) ∧ changeOf d n ar = ⟨n, ⟨ar, []⟩, ⟨ar, []⟩⟩) := by
  unfold changeOf
  cases h : d.changes.find? (fun c => c.name == n) with
  | none => exact .inr ⟨fun c hc => name_ne.1 (by have := List.find?_eq_none.1 h c hc; simpa using this), rfl⟩
  | some c => exact .inl ⟨List.mem_of_find?_eq_some h, name_eq.1 (by have := List.find?_some h; simpa using this), fun _ => rfl⟩
def keepOf (p m : Relt) : List (List Val) := p.rows.filter fun row => !hasRow m.rows row
def sumOk (x y : Changet) : Bool := decide (x.plus.arity = y.plus.arity) && (apart x.plus y.plus && apart x.minus y.minus)
def plusOf (x y : Changet) : List (List Val) := keepOf x.plus y.minus ++ keepOf y.plus x.minus
def lessOf (x y : Changet) : List (List Val) := keepOf x.minus y.plus ++ keepOf y.minus x.plus
def sumOf (n : ByteArray) (x y : Changet) : Changet := ⟨n, ⟨x.plus.arity, sortRows (plusOf x y)⟩, ⟨x.plus.arity, sortRows (lessOf x y)⟩⟩
def okAt (a b : Deltat) (n : ByteArray) (ar : Int) : Bool := sumOk (changeOf a n ar) (changeOf b n ar)
def sumAt (a b : Deltat) (n : ByteArray) (ar : Int) : Changet := sumOf n (changeOf a n ar) (changeOf b n ar)
def thenSums (a b : Deltat) : List Changet := (thenAll a b).map fun c => sumAt a b c.name c.plus.arity
def deltaThen (a b : Deltat) : Deltat × Bool :=
  if (deltaOk a && (deltaOk b && (((thenAll a b).all fun c => okAt a b c.name c.plus.arity) && deltaOk ⟨(thenSums a b).filter someRows⟩))) = true then (⟨(thenSums a b).filter someRows⟩, true) else (⟨[]⟩, false)
theorem then_a {a b : Deltat} (h : deltaOk a = false) : deltaThen a b = (⟨[]⟩, false) := by simp [deltaThen, h]
theorem then_b {a b : Deltat} (h : deltaOk b = false) : deltaThen a b = (⟨[]⟩, false) := by simp [deltaThen, h]
theorem then_bad {a b : Deltat} {k : Nat} (hk : k < (thenAll a b).length) (h : okAt a b (thenAll a b)[k].name (thenAll a b)[k].plus.arity = false) : deltaThen a b = (⟨[]⟩, false) := by
  have : ((thenAll a b).all fun c => okAt a b c.name c.plus.arity) = false := by
    rw [List.all_eq_false]; exact ⟨_, List.getElem_mem hk, by rw [h]; simp⟩
  simp [deltaThen, this]
theorem then_not {a b : Deltat} (h : deltaOk ⟨(thenSums a b).filter someRows⟩ = false) : deltaThen a b = (⟨[]⟩, false) := by simp [deltaThen, h]
theorem then_ok {a b : Deltat} (h1 : deltaOk a = true) (h2 : deltaOk b = true) (h3 : ∀ k (hk : k < (thenAll a b).length), okAt a b (thenAll a b)[k].name (thenAll a b)[k].plus.arity = true) (h4 : deltaOk ⟨(thenSums a b).filter someRows⟩ = true) : deltaThen a b = (⟨(thenSums a b).filter someRows⟩, true) := by
  have : ((thenAll a b).all fun c => okAt a b c.name c.plus.arity) = true := by
    rw [List.all_eq_true]
    intro c hc
    obtain ⟨k, hk, rfl⟩ := List.getElem_of_mem hc
    exact h3 k hk
  simp [deltaThen, h1, h2, this, h4]
theorem sumOk_ar {x y : Changet} (h : ¬ x.plus.arity = y.plus.arity) : sumOk x y = false := by simp [sumOk, h]
theorem sumOk_p {x y : Changet} (h : apart x.plus y.plus = false) : sumOk x y = false := by simp [sumOk, h]
theorem sumOk_m {x y : Changet} (h : apart x.minus y.minus = false) : sumOk x y = false := by simp [sumOk, h]
theorem sumOk_yes {x y : Changet} (h1 : x.plus.arity = y.plus.arity) (h2 : apart x.plus y.plus = true) (h3 : apart x.minus y.minus = true) : sumOk x y = true := by simp [sumOk, h1, h2, h3]
theorem change_at {d : Deltat} (h : deltaOk d = true) {c : Changet} (hc : c ∈ d.changes) : wordB c.name = true ∧ two c.plus c.minus = true := by
  obtain ⟨k, hk, rfl⟩ := List.getElem_of_mem hc
  refine ⟨?_, deltaOk_two h hk⟩
  simp only [deltaOk, Bool.and_eq_true] at h
  have := everyB_get h.1 hk
  simp only [changeAt, Bool.and_eq_true] at this
  exact this.1
/-- A relation that is too big makes the delta wrong. -/
theorem then_big {a b : Deltat} {k : Nat} (hk : k < (thenAll a b).length) (h : 300 < (sortRows (plusOf (changeOf a (thenAll a b)[k].name (thenAll a b)[k].plus.arity) (changeOf b (thenAll a b)[k].name (thenAll a b)[k].plus.arity))).length ∨ 300 < (sortRows (lessOf (changeOf a (thenAll a b)[k].name (thenAll a b)[k].plus.arity) (changeOf b (thenAll a b)[k].name (thenAll a b)[k].plus.arity))).length) :
    deltaThen a b = (⟨[]⟩, false) := by
  apply then_not
  cases q : deltaOk ⟨(thenSums a b).filter someRows⟩
  · rfl
  · exfalso
    have hm : sumAt a b (thenAll a b)[k].name (thenAll a b)[k].plus.arity ∈ (thenSums a b).filter someRows := by
      refine List.mem_filter.2 ⟨List.mem_map.2 ⟨_, List.getElem_mem hk, rfl⟩, ?_⟩
      have h0 : 0 < (sumAt a b (thenAll a b)[k].name (thenAll a b)[k].plus.arity).plus.rows.length + (sumAt a b (thenAll a b)[k].name (thenAll a b)[k].plus.arity).minus.rows.length := by
        simp only [sumAt, sumOf]; omega
      exact decide_eq_true h0
    have := (change_at q hm).2
    have p := (relOk_parts (two_left this)).2.2.2
    have m := (relOk_parts (two_right this)).2.2.2
    simp only [sumAt, sumOf] at p m
    omega
/-! ### Sizes -/
def smallCh (c : Changet) : Prop := c.plus.rows.length ≤ 300 ∧ c.minus.rows.length ≤ 300 ∧ Sorted c.plus.rows ∧ Sorted c.minus.rows
theorem changeOf_in {d : Deltat} (h : deltaOk d = true) (n : ByteArray) (ar : Int) : smallCh (changeOf d n ar) := by
  rcases changeOf_cases d n ar with ⟨h1, _, _⟩ | ⟨_, e⟩
  · have := (change_at h h1).2
    exact ⟨(relOk_parts (two_left this)).2.2.2, (relOk_parts (two_right this)).2.2.2, relOk_sorted (two_left this), relOk_sorted (two_right this)⟩
  · rw [e]; exact ⟨Nat.zero_le _, Nat.zero_le _, Sorted.nil, Sorted.nil⟩
theorem changeOf_small {d : Deltat} (hd : smallDelta d) (n : ByteArray) (hn : n.size ≤ 1048576) (ar : Int) : smallChange (changeOf d n ar) := by
  rcases changeOf_cases d n ar with ⟨h1, _, _⟩ | ⟨_, e⟩
  · exact hd.2 _ h1
  · rw [e]; exact ⟨hn, ⟨Nat.zero_le _, fun r hr => (by cases hr)⟩, ⟨Nat.zero_le _, fun r hr => (by cases hr)⟩⟩
theorem keepOf_len (p m : Relt) : (keepOf p m).length ≤ p.rows.length := List.length_filter_le _ _
theorem plusOf_len {x y : Changet} (hx : smallCh x) (hy : smallCh y) : (plusOf x y).length ≤ 600 ∧ (lessOf x y).length ≤ 600 := by
  have h1 := keepOf_len x.plus y.minus
  have h2 := keepOf_len y.plus x.minus
  have h3 := keepOf_len x.minus y.plus
  have h4 := keepOf_len y.minus x.plus
  obtain ⟨a1, a2, _⟩ := hx
  obtain ⟨b1, b2, _⟩ := hy
  unfold plusOf lessOf
  simp only [List.length_append]; omega
theorem plusOf_vals {x y : Changet} (hx : smallCh x) (hy : smallCh y) : ValsOk (plusOf x y) ∧ ValsOk (lessOf x y) := by
  constructor
  · intro r hr
    rcases List.mem_append.1 hr with q | q
    · exact hx.2.2.1.vals r (List.mem_filter.1 q).1
    · exact hy.2.2.1.vals r (List.mem_filter.1 q).1
  · intro r hr
    rcases List.mem_append.1 hr with q | q
    · exact hx.2.2.2.vals r (List.mem_filter.1 q).1
    · exact hy.2.2.2.vals r (List.mem_filter.1 q).1
theorem plusOf_small {x y : Changet} (hx : smallChange x) (hy : smallChange y) : (∀ r ∈ plusOf x y, smallRow r) ∧ ∀ r ∈ lessOf x y, smallRow r := by
  constructor
  · intro r hr
    rcases List.mem_append.1 hr with q | q
    · exact hx.2.1.2 r (List.mem_filter.1 q).1
    · exact hy.2.1.2 r (List.mem_filter.1 q).1
  · intro r hr
    rcases List.mem_append.1 hr with q | q
    · exact hx.2.2.2 r (List.mem_filter.1 q).1
    · exact hy.2.2.2 r (List.mem_filter.1 q).1
/-! ### The names of the reference -/
def nameOf (c : Changet) : Namedt := ⟨c.name, ⟨c.plus.arity, []⟩⟩
structure NmI (l : List Changet) (out : List Namedt) : Prop where
  sorted : SortedN out
  from_ : ∀ y ∈ out, ∃ c ∈ l, y = nameOf c
  has : ∀ c ∈ l, ∃ y ∈ out, y.name = c.name
theorem setRel_mem {rels : List Namedt} {nw y : Namedt} (hs : SortedN rels) (hy : y ∈ setRel rels nw) : y = nw ∨ y ∈ rels := by
  rw [← withRel_set hs] at hy
  unfold withRel at hy
  split at hy
  · rcases List.mem_or_eq_of_mem_set hy with q | q
    · exact .inr q
    · exact .inl q
  · rcases List.mem_append.1 hy with q | q
    · rcases List.mem_append.1 q with q | q
      · exact .inr (List.mem_of_mem_take q)
      · exact .inl (List.mem_singleton.1 q)
    · exact .inr (List.mem_of_mem_drop q)
theorem nlt_asym (x y : ByteArray) (h : nlt x y) : ¬ nlt y x := fun q => nlt_irr (nmlt_trans h q)
/-! ### What parts the first from the third -/
/-! ### For the walks -/
theorem delta_max {d : Deltat} (h : deltaOk d = true) : d.changes.length ≤ 24 := by
  simp only [deltaOk, Bool.and_eq_true, decide_eq_true_eq] at h
  exact h.2
theorem then_name {a b : Deltat} (ha : smallDelta a) (hb : smallDelta b) {k : Nat} (hk : k < (thenAll a b).length) : (thenAll a b)[k].name.size ≤ 1048576 := by
  rcases (thenAll_facts a b).2.1 _ (List.getElem_mem hk) with q | q
  · exact (ha.2 _ q).1
  · exact (hb.2 _ q).1
def ThenTo (a b : Deltat) (k : Nat) : Prop := ∀ j (hj : j < (thenAll a b).length), j < k → okAt a b (thenAll a b)[j].name (thenAll a b)[j].plus.arity = true
theorem ThenTo.zero {a b : Deltat} : ThenTo a b 0 := fun j _ h => by omega
theorem ThenTo.succ {a b : Deltat} {k : Nat} (h : ThenTo a b k) (hk : k < (thenAll a b).length) (ho : okAt a b (thenAll a b)[k].name (thenAll a b)[k].plus.arity = true) : ThenTo a b (k + 1) := fun j hj hjk => by
  by_cases e : j = k
  · subst e; exact ho
  · exact h j hj (by omega)
theorem thenSums_len {a b : Deltat} : (thenSums a b).length = (thenAll a b).length := by simp [thenSums]
theorem sums_yes {a b : Deltat} {k : Nat} {c : Changet} (hk : k < (thenAll a b).length) (hc : c = sumAt a b (thenAll a b)[k].name (thenAll a b)[k].plus.arity) (h : 0 < c.plus.rows.length + c.minus.rows.length) : filtTo someRows (thenSums a b) k ++ [c] = filtTo someRows (thenSums a b) (k + 1) := by
  have e : (thenSums a b)[k]'(by rw [thenSums_len]; exact hk) = c := by rw [hc]; simp [thenSums]
  have := filtTo_yes (p := someRows) (rows := thenSums a b) (k := k) (by rw [thenSums_len]; exact hk) (by rw [e]; exact decide_eq_true h)
  rwa [e] at this
theorem sums_no {a b : Deltat} {k : Nat} {c : Changet} (hk : k < (thenAll a b).length) (hc : c = sumAt a b (thenAll a b)[k].name (thenAll a b)[k].plus.arity) (h : c.plus.rows.length + c.minus.rows.length = 0) : filtTo someRows (thenSums a b) k = filtTo someRows (thenSums a b) (k + 1) := by
  have e : (thenSums a b)[k]'(by rw [thenSums_len]; exact hk) = c := by rw [hc]; simp [thenSums]
  exact filtTo_no (by rw [thenSums_len]; exact hk) (by rw [e]; exact decide_eq_false (by omega))
theorem sums_all {a b : Deltat} {k : Nat} (hk : (thenAll a b).length ≤ k) : filtTo someRows (thenSums a b) k = (thenSums a b).filter someRows := filtTo_all (by rw [thenSums_len]; exact hk)
theorem rel_parts {ar : Int} {rows : List (List Val)} (h : (relOf ar rows).2 = true) : (relOf ar rows).1 = ⟨ar, sortRows rows⟩ := by rw [(relOf_true h).1]
theorem sum_is {n : ByteArray} {x y : Changet} (h1 : (relOf x.plus.arity (plusOf x y)).2 = true) (h2 : (relOf x.plus.arity (lessOf x y)).2 = true) : (⟨n, (relOf x.plus.arity (plusOf x y)).1, (relOf x.plus.arity (lessOf x y)).1⟩ : Changet) = sumOf n x y := by
  rw [rel_parts h1, rel_parts h2]; rfl
theorem sums_small {a b : Deltat} (ha : smallDelta a) (hb : smallDelta b) (hA : deltaOk a = true) (hB : deltaOk b = true) : smallDelta ⟨(thenSums a b).filter someRows⟩ := by
  have l1 := delta_max hA
  have l2 := delta_max hB
  have l3 := thenAll_len a b
  have l4 := List.length_filter_le someRows (thenSums a b)
  rw [thenSums_len] at l4
  refine ⟨by dsimp only; omega, fun c hc => ?_⟩
  obtain ⟨g1, _⟩ := List.mem_filter.1 hc
  obtain ⟨x, hx, rfl⟩ := List.mem_map.1 g1
  have hn : x.name.size ≤ 1048576 := by
    rcases (thenAll_facts a b).2.1 x hx with q | q
    · exact (ha.2 x q).1
    · exact (hb.2 x q).1
  have sx := changeOf_small ha x.name hn x.plus.arity
  have sy := changeOf_small hb x.name hn x.plus.arity
  have cx := changeOf_in hA x.name x.plus.arity
  have cy := changeOf_in hB x.name x.plus.arity
  have hp := plusOf_small sx sy
  have hl := plusOf_len cx cy
  exact ⟨hn, sortRows_small (by omega) hp.1, sortRows_small (by omega) hp.2⟩
theorem cnt_sum {x y : Changet} (hx : smallCh x) (hy : smallCh y) : (sortRows (plusOf x y)).length ≤ 600 ∧ (sortRows (lessOf x y)).length ≤ 600 := by
  have h1 := plusOf_len hx hy
  have h2 := sortRows_len (rows := plusOf x y)
  have h3 := sortRows_len (rows := lessOf x y)
  omega
theorem rel_len {ar : Int} {rows : List (List Val)} : (relOf ar rows).1.rows.length ≤ 300 := by
  cases h : (relOf ar rows).2
  · rw [relOf_big (relOf_false h)]; simp
  · have := relOf_true h
    rw [this.1]; exact this.2
def zeroCh : Changet := ⟨⟨#[]⟩, ⟨0, []⟩, ⟨0, []⟩⟩
theorem zeroCh_rep (w : World) : changeE.rep w [.string ⟨#[]⟩, .int .i64 0, .slice none 0 0, .int .i64 0, .slice none 0 0] zeroCh [] := by
  have h0 : ∀ {α : Type} (e : Enc α), SliceRep e w none 0 0 [] [] := fun e => ⟨rfl, Nat.le_refl _, Nat.zero_le _, fun _ => rfl, .inl ⟨rfl, rfl⟩⟩
  exact Change_rep.2 ⟨none, 0, 0, [], none, 0, 0, [], rfl, Nat.zero_le _, wf64i (by decide) (by decide), h0 _, wf64i (by decide) (by decide), h0 _, rfl⟩
end Go.Proofs.YtibhoanjglfaoaaGreat

/- What parts the first store from the second, and what parts the second from the third: together what parts the first from the third. -/
namespace Go.Proofs.YtibhoanjglfaoaaGreat
open Go.RowKit
set_option linter.unusedVariables false
set_option linter.unusedSimpArgs false

theorem Pairs.trans {a b c : List Namedt} (h : Pairs a b) (h2 : Pairs b c) : Pairs a c :=
  ⟨h.len.trans h2.len, fun j q q2 => (h.name j q (by have := h.len; omega)).trans (h2.name j (by have := h.len; omega) q2), fun j q q2 => (h.ar j q (by have := h.len; omega)).trans (h2.ar j (by have := h.len; omega) q2)⟩
def zipC (a b : List Namedt) : List Changet := (List.zipWith ofAt a b).filter someRows
theorem zip_mem {a b : List Namedt} {j : Nat} (h1 : j < a.length) (h2 : j < b.length) (h : someRows (ofAt a[j] b[j]) = true) : ofAt a[j] b[j] ∈ zipC a b := by
  refine List.mem_filter.2 ⟨List.mem_iff_getElem.2 ⟨j, by rw [List.length_zipWith]; omega, ?_⟩, h⟩
  rw [List.getElem_zipWith]
theorem nm_inj {a : List Namedt} (hs : SortedN a) {i j : Nat} (hi : i < a.length) (hj : j < a.length) (e : a[i].name = a[j].name) : i = j := by
  rcases Nat.lt_trichotomy i j with q | q | q
  · have := hs i j hi hj q
    rw [e] at this; exact (nlt_irr this).elim
  · exact q
  · have := hs j i hj hi q
    rw [e] at this; exact (nlt_irr this).elim
theorem change_zip {a b : List Namedt} (hs : SortedN a) (hp : Pairs a b) {j : Nat} (h1 : j < a.length) (h2 : j < b.length) : changeOf ⟨zipC a b⟩ a[j].name a[j].rel.arity = ofAt a[j] b[j] := by
  rcases changeOf_cases ⟨zipC a b⟩ a[j].name a[j].rel.arity with ⟨q1, q2, _⟩ | ⟨q1, q2⟩
  · obtain ⟨i, i1, i2, e, _⟩ := changes_mem q1
    rw [e] at q2 ⊢
    have : i = j := nm_inj hs i1 h1 q2
    subst this; rfl
  · rw [q2]
    have hn : someRows (ofAt a[j] b[j]) = false := by
      cases q : someRows (ofAt a[j] b[j])
      · rfl
      · exact absurd rfl (q1 _ (zip_mem h1 h2 q))
    have h : ¬ 0 < (ofAt a[j] b[j]).plus.rows.length + (ofAt a[j] b[j]).minus.rows.length := of_decide_eq_false hn
    have e1 : (ofAt a[j] b[j]).plus.rows = [] := List.eq_nil_of_length_eq_zero (by omega)
    have e2 : (ofAt a[j] b[j]).minus.rows = [] := List.eq_nil_of_length_eq_zero (by omega)
    have ha : (ofAt a[j] b[j]).plus.arity = a[j].rel.arity := (hp.ar j h1 h2).symm
    have : ofAt a[j] b[j] = ⟨a[j].name, ⟨(ofAt a[j] b[j]).plus.arity, (ofAt a[j] b[j]).plus.rows⟩, ⟨a[j].rel.arity, (ofAt a[j] b[j]).minus.rows⟩⟩ := rfl
    rw [this, e1, e2, ha]
section
variable {x y z : Namedt}
theorem sum_rows (hx : relOk x.rel = true) (hy : relOk y.rel = true) (hz : relOk z.rel = true) : sortRows (plusOf (ofAt x y) (ofAt y z)) = (ofAt x z).plus.rows := by
  have sy := relOk_sorted hy
  have sz := relOk_sorted hz
  refine sorted_ext (sortRows_sorted fun r hr => ?_) (Sorted.of_pw (fun q hq => sz.vals q (List.filter_sublist.subset hq)) (sz.pw.sublist List.filter_sublist)) fun v => ?_
  · rcases List.mem_append.1 hr with q | q
    · exact sy.vals r (List.mem_filter.1 (List.mem_filter.1 q).1).1
    · exact sz.vals r (List.mem_filter.1 (List.mem_filter.1 q).1).1
  · rw [sortRows_mem]
    unfold plusOf keepOf ofAt
    simp only [List.mem_append, List.mem_filter, hasRow, Bool.not_eq_true', decide_eq_false_iff_not]
    by_cases q : v ∈ y.rel.rows <;> by_cases q2 : v ∈ x.rel.rows <;> by_cases q3 : v ∈ z.rel.rows <;> simp [q, q2, q3]
theorem sum_less (hx : relOk x.rel = true) (hy : relOk y.rel = true) (hz : relOk z.rel = true) : sortRows (lessOf (ofAt x y) (ofAt y z)) = (ofAt x z).minus.rows := by
  have sx := relOk_sorted hx
  have sy := relOk_sorted hy
  refine sorted_ext (sortRows_sorted fun r hr => ?_) (Sorted.of_pw (fun q hq => sx.vals q (List.filter_sublist.subset hq)) (sx.pw.sublist List.filter_sublist)) fun v => ?_
  · rcases List.mem_append.1 hr with q | q
    · exact sx.vals r (List.mem_filter.1 (List.mem_filter.1 q).1).1
    · exact sy.vals r (List.mem_filter.1 (List.mem_filter.1 q).1).1
  · rw [sortRows_mem]
    unfold lessOf keepOf ofAt
    simp only [List.mem_append, List.mem_filter, hasRow, Bool.not_eq_true', decide_eq_false_iff_not]
    by_cases q : v ∈ y.rel.rows <;> by_cases q2 : v ∈ x.rel.rows <;> by_cases q3 : v ∈ z.rel.rows <;> simp [q, q2, q3]
theorem sum_two (hx : relOk x.rel = true) (hy : relOk y.rel = true) (hz : relOk z.rel = true) (h1 : x.rel.arity = y.rel.arity) (h2 : y.rel.arity = z.rel.arity) : sumOf x.name (ofAt x y) (ofAt y z) = ofAt x z := by
  unfold sumOf
  rw [sum_rows hx hy hz, sum_less hx hy hz]
  have e1 : (ofAt x y).plus.arity = (ofAt x z).plus.arity := h2
  have e2 : (ofAt x y).plus.arity = (ofAt x z).minus.arity := h1.symm
  show (⟨x.name, ⟨(ofAt x y).plus.arity, (ofAt x z).plus.rows⟩, ⟨(ofAt x y).plus.arity, (ofAt x z).minus.rows⟩⟩ : Changet) = ⟨x.name, ⟨(ofAt x z).plus.arity, (ofAt x z).plus.rows⟩, ⟨(ofAt x z).minus.arity, (ofAt x z).minus.rows⟩⟩
  rw [← e1, ← e2]
theorem sum_fits (h2 : y.rel.arity = z.rel.arity) : sumOk (ofAt x y) (ofAt y z) = true := by
  refine sumOk_yes h2 ?_ ?_
  · rw [apart_iff]
    refine List.length_eq_zero_iff.2 (List.filter_eq_nil_iff.2 fun v hv => ?_)
    simp only [ofAt, List.mem_filter, hasRow, Bool.not_eq_true', decide_eq_false_iff_not, decide_eq_true_eq] at hv ⊢
    exact fun q => q.2 hv.1
  · rw [apart_iff]
    refine List.length_eq_zero_iff.2 (List.filter_eq_nil_iff.2 fun v hv => ?_)
    simp only [ofAt, List.mem_filter, hasRow, Bool.not_eq_true', decide_eq_false_iff_not, decide_eq_true_eq] at hv ⊢
    exact fun q => hv.2 q.1
end
/-- Which relation a name that is gone over belongs to. -/
theorem all_at {a b c : List Namedt} (hp : Pairs a b) (hp2 : Pairs b c) {x : Changet} (hx : x ∈ thenAll ⟨zipC a b⟩ ⟨zipC b c⟩) : ∃ j, ∃ h : j < a.length, x.name = a[j].name ∧ x.plus.arity = a[j].rel.arity := by
  rcases (thenAll_facts _ _).2.1 x hx with q | q
  · obtain ⟨j, h1, h2, e, _⟩ := changes_mem q
    exact ⟨j, h1, by rw [e]; rfl, by rw [e]; exact (hp.ar j h1 h2).symm⟩
  · obtain ⟨j, h1, h2, e, _⟩ := changes_mem q
    have h0 : j < a.length := by have := hp.len; omega
    exact ⟨j, h0, by rw [e]; exact (hp.name j h0 h1).symm, by rw [e]; exact ((hp.ar j h0 h1).trans (hp2.ar j h1 h2)).symm⟩
theorem at_j {a b c : List Namedt} (hs : SortedN a) (hp : Pairs a b) (hp2 : Pairs b c) {j : Nat} (h : j < a.length) (h2 : j < b.length) (h3 : j < c.length) :
    changeOf ⟨zipC a b⟩ a[j].name a[j].rel.arity = ofAt a[j] b[j] ∧ changeOf ⟨zipC b c⟩ a[j].name a[j].rel.arity = ofAt b[j] c[j] := by
  refine ⟨change_zip hs hp h h2, ?_⟩
  rw [hp.name j h h2, hp.ar j h h2]
  exact change_zip (sortedN_like hs hp.len.symm fun i q q2 => (hp.name i q2 q).symm) hp2 h2 h3
theorem thens_zip {a b c : List Namedt} (hs : SortedN a) (hp : Pairs a b) (hp2 : Pairs b c) (oa : ∀ x ∈ a, relOk x.rel = true) (ob : ∀ x ∈ b, relOk x.rel = true) (oc : ∀ x ∈ c, relOk x.rel = true) : (thenSums ⟨zipC a b⟩ ⟨zipC b c⟩).filter someRows = zipC a c := by
  obtain ⟨t1, t2, t3⟩ := thenAll_facts ⟨zipC a b⟩ ⟨zipC b c⟩
  have nm : ∀ x, (sumAt ⟨zipC a b⟩ ⟨zipC b c⟩ x.name x.plus.arity).name = (x : Changet).name := fun _ => rfl
  have key : ∀ x ∈ thenAll ⟨zipC a b⟩ ⟨zipC b c⟩, ∃ j, ∃ (h : j < a.length) (h3 : j < c.length), x.name = a[j].name ∧ sumAt ⟨zipC a b⟩ ⟨zipC b c⟩ x.name x.plus.arity = ofAt a[j] c[j] := fun x hx => by
    obtain ⟨j, h, e1, e2⟩ := all_at hp hp2 hx
    have h2 : j < b.length := by have := hp.len; omega
    have h3 : j < c.length := by have := hp2.len; omega
    obtain ⟨g1, g2⟩ := at_j hs hp hp2 h h2 h3
    refine ⟨j, h, h3, e1, ?_⟩
    unfold sumAt
    rw [e1, e2, g1, g2]
    exact sum_two (oa _ (List.getElem_mem h)) (ob _ (List.getElem_mem h2)) (oc _ (List.getElem_mem h3)) (hp.ar j h h2) (hp2.ar j h2 h3)
  refine pw_ext (R := fun x y : Changet => nlt x.name y.name) (fun x y h => nlt_asym _ _ h) ?_ (changes_sorted hs) fun z => ?_
  · refine List.Pairwise.filter _ ?_
    unfold thenSums
    exact List.pairwise_map.2 t1
  · constructor
    · intro hz
      obtain ⟨h1, h2⟩ := List.mem_filter.1 hz
      obtain ⟨x, hx, rfl⟩ := List.mem_map.1 h1
      obtain ⟨j, h, h3, _, e⟩ := key x hx
      rw [e] at h2 ⊢
      exact zip_mem h h3 h2
    · intro hz
      obtain ⟨j, h, h3, rfl, hr⟩ := changes_mem hz
      have h2 : j < b.length := by have := hp.len; omega
      have has : ∃ x ∈ thenAll ⟨zipC a b⟩ ⟨zipC b c⟩, x.name = a[j].name := by
        cases q1 : someRows (ofAt a[j] b[j])
        · cases q2 : someRows (ofAt b[j] c[j])
          · exfalso
            have e1 := noRows_of (oa _ (List.getElem_mem h)) (ob _ (List.getElem_mem h2)) (hp.name j h h2) (hp.ar j h h2) q1
            rw [e1, q2] at hr; cases hr
          · obtain ⟨x, hx, e⟩ := t3 _ (.inr (zip_mem h2 h3 q2))
            exact ⟨x, hx, by rw [e]; exact (hp.name j h h2).symm⟩
        · obtain ⟨x, hx, e⟩ := t3 _ (.inl (zip_mem h h2 q1))
          exact ⟨x, hx, by rw [e]; rfl⟩
      obtain ⟨x, hx, e⟩ := has
      obtain ⟨i, hi, hi3, e1, e2⟩ := key x hx
      have : i = j := nm_inj hs hi h (by rw [← e1, e])
      subst this
      exact List.mem_filter.2 ⟨List.mem_map.2 ⟨x, hx, e2⟩, hr⟩
theorem then_two {a b c : Storet} (h1 : (deltaOf a b).2 = true) (h2 : (deltaOf b c).2 = true) : (deltaOf a c).2 = true ∧ deltaThen (deltaOf a b).1 (deltaOf b c).1 = ((deltaOf a c).1, true) := by
  have r1 := delta_right h1
  have r2 := delta_right h2
  obtain ⟨oa, ob, hp, e1⟩ := deltaOf_is h1
  obtain ⟨_, oc, hp2, e2⟩ := deltaOf_is h2
  have e3 := deltaOf_mk oa oc (hp.trans hp2)
  have h3 : (deltaOf a c).2 = true := by rw [e3]
  have r3 := delta_right h3
  refine ⟨h3, ?_⟩
  have hs := storeOk_names oa
  have ok : ∀ {s : Storet}, storeOk s = true → ∀ x ∈ s.rels, relOk x.rel = true := fun {s} h x hx => by
    obtain ⟨j, hj, rfl⟩ := List.getElem_of_mem hx
    exact storeOk_rel h hj
  rw [e1] at r1 ⊢
  rw [e2] at r2 ⊢
  rw [e3] at r3 ⊢
  simp only at r1 r2 r3 ⊢
  rw [ofTo_is hp] at r1 ⊢
  rw [ofTo_is hp2] at r2 ⊢
  rw [ofTo_is (hp.trans hp2)] at r3 ⊢
  have z := thens_zip hs hp hp2 (ok oa) (ok ob) (ok oc)
  have := then_ok (a := ⟨zipC a.rels b.rels⟩) (b := ⟨zipC b.rels c.rels⟩) r1 r2 (fun k hk => ?_) (by rw [z]; exact r3)
  · rw [z] at this; exact this
  · obtain ⟨j, h, q1, q2⟩ := all_at hp hp2 (List.getElem_mem hk)
    have g2 : j < b.rels.length := by have := hp.len; omega
    have g3 : j < c.rels.length := by have := hp2.len; omega
    obtain ⟨f1, f2⟩ := at_j hs hp hp2 h g2 g3
    unfold okAt
    rw [q1, q2, f1, f2]
    exact sum_fits (hp2.ar j g2 g3)
end Go.Proofs.YtibhoanjglfaoaaGreat

/- ThreeS stores that are drawn one out of the other: they are right, of the same names and lengths. -/
namespace Go.Proofs.YtibhoanjglfaoaaGreat
open Go.RowKit
set_option linter.unusedVariables false
set_option linter.unusedSimpArgs false

theorem rk_row {x : List Val} (h : x.length ≤ 6) (hv : ∀ v ∈ x, valOk v = true) : rowOk x = true := by
  simp only [rowOk, Bool.and_eq_true, decide_eq_true_eq, Bool.not_eq_true']
  refine ⟨h, List.any_eq_false.2 fun v hm => ?_⟩
  simp [badVal, hv v hm]
theorem rk_mk {ar : Int} {rows : List (List Val)} (hs : Sorted rows) (hl : ∀ x ∈ rows, (x.length : Int) = ar) (h0 : 0 ≤ ar) (h6 : ar ≤ 6) (h300 : rows.length ≤ 300) : relOk ⟨ar, rows⟩ = true := by
  refine relOk_good (k := rows.length) ?_ (Nat.le_refl _) h0 h6 h300
  intro j hj hjk
  have hj : j < rows.length := hj
  have hlj : (rows[j].length : Int) = ar := hl _ (List.getElem_mem hj)
  have hr : rowOk rows[j] = true := rk_row (x := rows[j]) (by omega) (hs.1 j hj)
  cases j with
  | zero => exact rowAt_first hj (hl _ (List.getElem_mem hj)) hr rfl
  | succ j => exact rowAt_next hj (hl _ (List.getElem_mem hj)) hr (by omega) (hs.2 j (j + 1) (by omega) hj (by omega))
theorem rk_lens {r : Relt} (h : relOk r = true) : ∀ x ∈ r.rows, (x.length : Int) = r.arity := fun x hx => by
  obtain ⟨j, hj, rfl⟩ := List.getElem_of_mem hx
  exact relOk_ar h hj
theorem rk_sub {r : Relt} {rows : List (List Val)} (h : relOk r = true) (hs : rows.Sublist r.rows) : relOk ⟨r.arity, rows⟩ = true := by
  have hp := relOk_parts h
  exact rk_mk (Sorted.of_pw (fun q hq => (relOk_sorted h).vals q (hs.subset hq)) ((relOk_sorted h).pw.sublist hs)) (fun x hx => rk_lens h x (hs.subset hx)) hp.2.1 hp.2.2.1 (Nat.le_trans hs.length_le hp.2.2.2)
theorem rk_put {r : Relt} {row : List Val} (hf : fits r row = true) (h : (putRow r.rows row).length ≤ 300) : relOk ⟨r.arity, putRow r.rows row⟩ = true := by
  obtain ⟨h1, h2, h3⟩ := fits_parts hf
  have hp := relOk_parts h1
  refine rk_mk (putRow_sorted (relOk_sorted h1) (rowOk_vals h2)) (fun x hx => ?_) hp.2.1 hp.2.2.1 h
  rcases putRow_mem hx with q | q
  · exact rk_lens h1 x q
  · rw [q]; exact h3
/-! ### What is drawn is right -/
theorem dRel_right (b : List Int) {ar : Int} (c : Cur) (h0 : 0 ≤ ar) (h : ar ≤ 6) : relOk (dRel b ar c).1 = true := by
  have h1 := dBelow_lt b c (n := 6) (by decide)
  obtain ⟨g1, g2, g3, _⟩ := dPuts_ok b ar (dBelow b c 6).1.toNat (dBelow b c 6).2
  exact rk_mk g1 (fun x hx => by rw [g3 x hx]; omega) h0 h (by omega)
theorem dFull_right : relOk (dFull 2 300) = true := by
  refine rk_mk (Sorted.of_pw (fun x hx => ?_) ?_) (fun x hx => ?_) (by decide) (by decide) (by simp)
  · obtain ⟨i, hi, rfl⟩ := List.mem_map.1 hx
    intro v hv
    rw [(List.mem_replicate.1 hv).2]
    have hi := List.mem_range.1 hi
    rw [valOk_num (show (⟨#[]⟩ : ByteArray).toList.isEmpty = true by decide +kernel)]
    have h3 : (300 : Int).toNat = 300 := rfl
    simp [numB]; omega
  · refine List.pairwise_map.2 (List.Pairwise.imp ?_ List.pairwise_lt_range)
    intro i j hij
    show cmpRow (List.replicate (2 : Int).toNat _) (List.replicate (2 : Int).toNat _) < 0
    simp [cmpRow, List.replicate, cmpVal]
    rw [if_neg (by omega)]; omega
  · obtain ⟨i, _, rfl⟩ := List.mem_map.1 hx
    simp
structure GoodS (s : List Namedt) : Prop where
  srt : SortedN s
  all : ∀ x ∈ s, wordB x.name = true ∧ relOk x.rel = true
theorem GoodS.set {s : List Namedt} (h : GoodS s) {x : Namedt} (h1 : wordB x.name = true) (h2 : relOk x.rel = true) : GoodS (setRel s x) :=
  ⟨by rw [← withRel_set h.srt]; exact withRel_sorted h.srt, fun y hy => by
    rcases setRel_mem h.srt hy with q | q
    · rw [q]; exact ⟨h1, h2⟩
    · exact h.all y q⟩
theorem GoodS.nil : GoodS [] := ⟨fun i j hi => absurd hi (by simp), fun x hx => by cases hx⟩
theorem GoodS.ok {s : List Namedt} (h : GoodS s) (hl : s.length ≤ 24) : storeOk ⟨s⟩ = true := by
  refine storeOk_good (k := s.length) (fun j hj _ => ?_) (Nat.le_refl _) hl
  have hj : j < s.length := hj
  have hx := h.all _ (List.getElem_mem hj)
  cases j with
  | zero => exact namedAt_first hj rfl hx.1 hx.2
  | succ j => exact namedAt_next hj hx.1 hx.2 (h.srt j (j + 1) (by omega) hj (by omega))
theorem drawSt_good (b : List Int) : ∀ (k : Nat) (c : Cur), GoodS (drawSt b k c).1
  | 0, c => GoodS.nil
  | k + 1, c => by
    have h2 := dBelow_lt b (dWord b (drawSt b k c).2).2 (n := 3) (by decide)
    exact (drawSt_good b k c).set (x := ⟨_, _⟩) (dWords_all _ (dWord_in b (drawSt b k c).2)).1 (dRel_right b _ (by omega) (by omega))
theorem bigName_word : wordB bigName = true := by decide +kernel
theorem dStore_good (b : List Int) (c : Cur) : GoodS (dStore b c).1 := by
  unfold dStore dStore1
  split
  · exact (drawSt_good b _ _).set (x := ⟨_, _⟩) bigName_word dFull_right
  · exact drawSt_good b _ _
/-! ### The next store -/
def LikeR (r r' : Relt) : Prop := relOk r' = true ∧ r'.arity = r.arity
theorem drop_right {r : Relt} {row : List Val} (h : relOk r = true) (hm : row ∈ r.rows) : LikeR r (relDrop r row).1 := by
  obtain ⟨j, hj, rfl⟩ := List.getElem_of_mem hm
  rw [relDrop_ok (fits_ok h (relOk_row h hj) (relOk_ar h hj))]
  exact ⟨rk_sub h List.filter_sublist, rfl⟩
theorem add_right {r : Relt} {row : List Val} (h : (relAdd r row).2 = 0) : LikeR r (relAdd r row).1 := by
  unfold relAdd at *
  split at h
  · rename_i h1
    split at h
    · cases h
    · rename_i h2
      rw [if_pos h1, if_neg h2]
      exact ⟨rk_put h1 (by omega), rfl⟩
  · cases h
theorem nxRel_right {b : List Int} {r : Relt} {c : Cur} (h : relOk r = true) : LikeR r (nxRel b r c).1 := by
  have h1 : LikeR r (nxDrop b r (dBelow b c 4).1 (dBelow b c 4).2).1 := by
    unfold nxDrop
    split
    · rename_i h2
      have h3 := dBelow_lt b (dBelow b c 4).2 (n := (r.rows.length : Int)) (by omega)
      refine drop_right h ?_
      have hl : (nxIdx b r (dBelow b c 4).2).1.toNat < r.rows.length := by unfold nxIdx; omega
      have e : r.rows.getD (nxIdx b r (dBelow b c 4).2).1.toNat [] = r.rows[(nxIdx b r (dBelow b c 4).2).1.toNat] := by simp [List.getD, hl]
      rw [e]; exact List.getElem_mem hl
    · exact ⟨h, rfl⟩
  unfold nxRel nxAdd
  split
  · dsimp only
    split
    · rename_i h4
      have := add_right h4
      exact ⟨this.1, this.2.trans h1.2⟩
    · exact h1
  · exact h1
structure LikeS (s s' : List Namedt) : Prop where
  len : s'.length = s.length
  at_ : ∀ j (h : j < s.length) (h' : j < s'.length), s'[j].name = s[j].name ∧ s'[j].rel.arity = s[j].rel.arity ∧ relOk s'[j].rel = true
theorem nextTo_like {b : List Int} {s : List Namedt} (h : ∀ x ∈ s, relOk x.rel = true) : ∀ (k : Nat) (c : Cur), LikeS s (nextTo b s k c).1
  | 0, c => ⟨rfl, fun j hj hj' => ⟨rfl, rfl, h _ (List.getElem_mem hj)⟩⟩
  | k + 1, c => by
    have ih := nextTo_like (b := b) h k c
    refine ⟨by simp only [nextTo, List.length_set]; exact ih.len, fun j hj hj' => ?_⟩
    have hj2 : j < (nextTo b s k c).1.length := by have := ih.len; omega
    by_cases e : j = k
    · subst e
      simp only [nextTo, List.getElem_set_self]
      rw [getD_nm hj2]
      obtain ⟨g1, g2, g3⟩ := ih.at_ j hj hj2
      have := nxRel_right (b := b) (c := (nextTo b s j c).2) g3
      exact ⟨g1, this.2.trans g2, this.1⟩
    · simp only [nextTo]
      rw [List.getElem_set_ne (Ne.symm e)]
      exact ih.at_ j hj hj2
theorem LikeS.good {s s' : List Namedt} (h : LikeS s s') (g : GoodS s) : GoodS s' := by
  refine ⟨sortedN_like g.srt h.len fun j h1 h2 => (h.at_ j h2 h1).1, fun x hx => ?_⟩
  obtain ⟨j, hj, rfl⟩ := List.getElem_of_mem hx
  have hj2 : j < s.length := by have := h.len; omega
  obtain ⟨g1, _, g3⟩ := h.at_ j hj2 hj
  exact ⟨by rw [g1]; exact (g.all _ (List.getElem_mem hj2)).1, g3⟩
theorem LikeS.pairs {s s' : List Namedt} (h : LikeS s s') : Pairs s s' := ⟨h.len.symm, fun j h1 h2 => (h.at_ j h1 h2).1.symm, fun j h1 h2 => (h.at_ j h1 h2).2.1.symm⟩
theorem LikeS.refl {s : List Namedt} (g : GoodS s) : LikeS s s := ⟨rfl, fun j h1 h2 => ⟨rfl, rfl, (g.all _ (List.getElem_mem h1)).2⟩⟩
theorem dNext_like (b : List Int) {s : List Namedt} (g : GoodS s) (c : Cur) : LikeS s (dNext b s c).1 := nextTo_like (fun x hx => (g.all x hx).2) _ c
/-! ### ThreeS stores -/
def dMk2 (b : List Int) (a : List Namedt × Cur) : List Namedt × Cur := dNext b a.1 a.2
def dMake (b : List Int) (c : Cur) : List Namedt × List Namedt × List Namedt :=
  ((dStore b c).1, (dMk2 b (dStore b c)).1, if (dBelow b (dMk2 b (dMk2 b (dStore b c))).2 4).1 = 0 then (dStore b c).1 else (dMk2 b (dMk2 b (dStore b c))).1)
structure ThreeS (x y z : Storet) : Prop where
  sx : smallStore x
  sy : smallStore y
  sz : smallStore z
  xy : (deltaOf x y).2 = true
  yz : (deltaOf y z).2 = true
theorem nxS_all {s : List Namedt} (hs : ∀ x ∈ s, namedSm x) (g : GoodS s) : ∀ y ∈ s, nxSm y := fun y hy => ⟨namedSm_small (hs y hy), by have := (relOk_parts (g.all y hy).2).2.2.1; omega⟩
theorem next_small {b : List Int} {s : List Namedt} (h : ∀ y ∈ s, nxSm y) (c : Cur) : (dNext b s c).1.length = s.length ∧ ∀ y ∈ (dNext b s c).1, nxSm y := nextTo_sm h _ c
theorem of_good {s s' : List Namedt} (g : GoodS s) (g' : GoodS s') (hl : s.length ≤ 24) (h : Pairs s s') : (deltaOf ⟨s⟩ ⟨s'⟩).2 = true := by
  rw [deltaOf_mk (a := ⟨s⟩) (b := ⟨s'⟩) (g.ok hl) (g'.ok (by have := h.len; omega)) h]
theorem dMake_three (b : List Int) (c : Cur) : ThreeS ⟨(dMake b c).1⟩ ⟨(dMake b c).2.1⟩ ⟨(dMake b c).2.2⟩ := by
  have sm := dStore_sm b c
  have g := dStore_good b c
  have hl : (dStore b c).1.length ≤ 24 := Nat.le_trans sm.len (by decide)
  have n0 := nxS_all sm.all g
  have l1 := dNext_like b g (dStore b c).2
  have g1 : GoodS (dMk2 b (dStore b c)).1 := l1.good g
  have n1 := next_small (b := b) n0 (dStore b c).2
  have l2 := dNext_like b g1 (dMk2 b (dStore b c)).2
  have g2 : GoodS (dMk2 b (dMk2 b (dStore b c))).1 := l2.good g1
  have n2 := next_small (b := b) (s := (dMk2 b (dStore b c)).1) n1.2 (dMk2 b (dStore b c)).2
  have small : ∀ {s : List Namedt}, s.length = (dStore b c).1.length → (∀ y ∈ s, nxSm y) → smallStore ⟨s⟩ := fun {s} e hs => ⟨by show s.length ≤ _; omega, fun y hy => (hs y hy).1⟩
  have e1 : (dMk2 b (dStore b c)).1.length = (dStore b c).1.length := n1.1
  refine ⟨small rfl n0, small e1 n1.2, ?_, of_good g g1 hl l1.pairs, ?_⟩
  · show smallStore ⟨if _ then _ else _⟩
    split
    · exact small rfl n0
    · exact small (n2.1.trans e1) n2.2
  · show (deltaOf _ ⟨if _ then _ else _⟩).2 = true
    split
    · exact of_good g1 g (Nat.le_trans (Nat.le_of_eq e1) hl) l1.pairs.symm
    · exact of_good g1 g2 (Nat.le_trans (Nat.le_of_eq e1) hl) l2.pairs
theorem dMk_facts (b : List Int) (c : Cur) : ((dStore b c).1.length ≤ 1048576 ∧ (∀ y ∈ (dStore b c).1, smallNamed y) ∧ ∀ y ∈ (dStore b c).1, nxSm y) ∧ (dNext b (dStore b c).1 (dStore b c).2).1.length ≤ 1048576 ∧ ∀ y ∈ (dNext b (dStore b c).1 (dStore b c).2).1, nxSm y := by
  have sm := dStore_sm b c
  have n0 := nxS_all sm.all (dStore_good b c)
  have n1 := next_small (b := b) n0 (dStore b c).2
  have hl := sm.len
  exact ⟨⟨by omega, fun y hy => (n0 y hy).1, n0⟩, by omega, n1.2⟩
end Go.Proofs.YtibhoanjglfaoaaGreat

/- Functions with three results in memory. -/
namespace Go.Proofs.YtibhoanjglfaoaaGreat
open Go.RowKit
set_option linter.unusedVariables false
section results
variable {P : Program} {f : FuncId} {fn : Func} {c : Code} {N : Nat} {args : List AVal} {L L' : Locs}
theorem AC_bodyCCC {ty ty2 ty3 : TypeId} {r r2 r3 n n2 n3 k k2 k3 : Nat} {cs cs2 cs3 : List Cell} {T : Tmps} {Lf : Locs} (hf : P.funcs[f]? = some fn) (hb : fn.body = some c) (hn : (fn.name == "runtime.NumGoroutine") = false) (hN : fn.ntmps = N) (hA : Nat.ble args.length N = true) (hr : fn.results = #[.cell r ty, .cell r2 ty2, .cell r3 ty3])
    (ht : lk T r = some (.one (.ptr k 0))) (hl : lkl Lf k = some (.box cs)) (hk : kindT P ty = some (some n)) (hcn : cs.length = n) (ht2 : lk T r2 = some (.one (.ptr k2 0))) (hl2 : lkl Lf k2 = some (.box cs2)) (hk2 : kindT P ty2 = some (some n2)) (hcn2 : cs2.length = n2)
    (ht3 : lk T r3 = some (.one (.ptr k3 0))) (hl3 : lkl Lf k3 = some (.box cs3)) (hk3 : kindT P ty3 = some (some n3)) (hcn3 : cs3.length = n3)
    (hren : (AVal.tup [.agg cs, .agg cs2, .agg cs3]).ren (rn []) = .tup [.agg cs, .agg cs2, .agg cs3]) (hle : LeS (keys L) (rn []) ⟨T, Lf⟩ ⟨[], L'⟩)
    (h : AW P N (keys L) c (RetS (keys L) T Lf) (RetQ (keys L) T Lf) ⟨args0 args 0, L⟩) : AC P f args L (.tup [.agg cs, .agg cs2, .agg cs3]) L' :=
  AC_ofB hf hb hn hN hA hren hle (fun g a w R => by
    obtain ⟨ad, v, h1, h2, h3⟩ := run_results_c R ht hl hk hcn
    obtain ⟨ad2, v2, g1, g2, g3⟩ := run_results_c R ht2 hl2 hk2 hcn2
    obtain ⟨ad3, v3, e1, e2, e3⟩ := run_results_c R ht3 hl3 hk3 hcn3
    refine ⟨.tuple #[v, v2, v3], ?_, ⟨[v, v2, v3], rfl, h3, g3, e3, trivial⟩⟩
    simp only [Array.getD_eq_getD_getElem?] at h1 g1 e1
    simp [results, hr, h1, h2, g1, g2, e1, e2]) h
end results
end Go.Proofs.YtibhoanjglfaoaaGreat

/- Three stores that are drawn (printed by walk.py) -/
namespace Go.Proofs.YtibhoanjglfaoaaGreat
open Go.RowKit
set_option linter.unusedVariables false
set_option linter.unusedSimpArgs false
set_option maxRecDepth 100000

set_option maxHeartbeats 4000000 in
theorem makeS_c (b : List Int) (hb : b.length ≤ 1048576) : AC Tryz.prog 27 [.one (.sl (intE .u8) b)] [] (.tup [.agg [.sl namedE (dMake b (dNew b)).1], .agg [.sl namedE (dMake b (dNew b)).2.1], .agg [.sl namedE (dMake b (dNew b)).2.2]]) [] := by
  obtain ⟨⟨f1, f2, f3⟩, f4, f5⟩ := dMk_facts b (dNew b)
  refine AC_bodyCCC (n := 1) (n2 := 1) (n3 := 1) (k := 9) (k2 := 8) (k3 := 7) (T := [(2, .one (.ptr 9 0)), (3, .one (.ptr 8 0)), (4, .one (.ptr 7 0))]) (Lf := ((9, some (.box [.sl namedE (dMake b (dNew b)).1])) :: (8, some (.box [.sl namedE (dMake b (dNew b)).2.1])) :: (7, some (.box [.sl namedE (dMake b (dNew b)).2.2])) :: [])) Tryz.func27 rfl rfl Tryz.ntmps27 rfl Tryz.results27 rfl rfl (by kernel_rfl) rfl rfl rfl (by kernel_rfl) rfl rfl rfl (by kernel_rfl) rfl rfl ⟨trivial, (by repeat (first | exact trivial | refine ⟨⟨_, rfl, BLe.rf⟩, ?_⟩)), (by repeat (first | exact trivial | refine ⟨⟨rfl, by first | (left; intro h; cases h) | (right; rfl), by first | exact (fun _ h => ⟨_, h⟩) | exact (fun _ _ => ⟨_, rfl⟩) | (intro _ h; cases h)⟩, ?_⟩)), rfl⟩ ?_
  refine AW_seq ?_
  refine AW_region ?_
  refine AL_p (x_alloc (z := .agg #[.slice none 0 0]) 100 rfl (by kernel_rfl) rfl rfl rfl rfl) ?_
  refine AL_p (x_alloc (z := .agg #[.slice none 0 0]) 101 rfl (by kernel_rfl) rfl rfl rfl rfl) ?_
  refine AL_p (x_alloc (z := .agg #[.slice none 0 0]) 102 rfl (by kernel_rfl) rfl rfl rfl rfl) ?_
  refine AL_nil ?_
  refine AW_seq ?_
  refine AW_region ?_
  refine AL_p (x_move rfl rfl) ?_
  refine AL_p (x_call1 rfl rfl rfl (new_c b hb) rfl rfl rfl rfl) ?_
  refine AL_p (x_assign rfl rfl) ?_
  refine AL_nil ?_
  refine AW_seq ?_
  refine AW_region ?_
  refine AL_p (x_move rfl rfl) ?_
  refine AL_p (x_call (ks := []) (L := [(200, some _)]) (L' := [(200, some _), (103, some _)]) rfl rfl rfl (drawStore_c b (dNew b) hb 103 rfl) rfl AllV.rf (caught_of rfl) rfl rfl rfl ⟨rfl, trivial⟩ rfl) ?_
  refine AL_p (x_alloc (z := .agg #[.slice none 0 0]) 104 rfl (by kernel_rfl) rfl rfl rfl rfl) ?_
  refine AL_p (x_store (n := 1) rfl rfl rfl rfl (by kernel_rfl) rfl rfl rfl) ?_
  refine AL_nil ?_
  refine AW_seq ?_
  refine AW_shutB 103 104 0 rfl rfl rfl rfl ?_
  refine AW_region ?_
  refine AL_p (x_move rfl rfl) ?_
  refine AL_p (x_loadN (n := 1) rfl rfl rfl (by kernel_rfl) rfl rfl) ?_
  refine AL_p (x_call (ks := []) (L := [(200, some _)]) (L' := [(200, some _)]) rfl rfl rfl (next_c b (dStore b (dNew b)).2 hb (dStore b (dNew b)).1 f1 f3) rfl AllV.rf (caught_of rfl) rfl rfl rfl ⟨rfl, trivial⟩ rfl) ?_
  refine AL_p (x_alloc (z := .agg #[.slice none 0 0]) 105 rfl (by kernel_rfl) rfl rfl rfl rfl) ?_
  refine AL_p (x_store (n := 1) rfl rfl rfl rfl (by kernel_rfl) rfl rfl rfl) ?_
  refine AL_nil ?_
  refine AW_seq ?_
  refine AW_region ?_
  refine AL_p (x_move rfl rfl) ?_
  refine AL_p (x_loadN (n := 1) rfl rfl rfl (by kernel_rfl) rfl rfl) ?_
  refine AL_p (x_call (ks := []) (L := [(200, some _)]) (L' := [(200, some _)]) rfl rfl rfl (next_c b (dNext b (dStore b (dNew b)).1 (dStore b (dNew b)).2).2 hb (dNext b (dStore b (dNew b)).1 (dStore b (dNew b)).2).1 f4 f5) rfl AllV.rf (caught_of rfl) rfl rfl rfl ⟨rfl, trivial⟩ rfl) ?_
  refine AL_p (x_alloc (z := .agg #[.slice none 0 0]) 106 rfl (by kernel_rfl) rfl rfl rfl rfl) ?_
  refine AL_p (x_store (n := 1) rfl rfl rfl rfl (by kernel_rfl) rfl rfl rfl) ?_
  refine AL_nil ?_
  refine AW_seq ?_
  refine AW_seq ?_
  refine AW_region ?_
  refine AL_p (x_move rfl rfl) ?_
  refine AL_p (x_call (ks := []) (L := [(200, some _)]) (L' := [(200, some _)]) rfl rfl rfl (below_c b (dNext b (dNext b (dStore b (dNew b)).1 (dStore b (dNew b)).2).1 (dNext b (dStore b (dNew b)).1 (dStore b (dNew b)).2).2).2 hb 4) rfl AllV.rf (caught_of rfl) rfl rfl rfl ⟨rfl, trivial⟩ rfl) ?_
  refine AL_b (x_eql rfl rfl rfl) (fun b21 h21 => ?_)
  refine AL_nil ?_
  cases b21
  · try simp only [tdy] at h21
    have hno : (dMake b (dNew b)) = ((dStore b (dNew b)).1, (dNext b (dStore b (dNew b)).1 (dStore b (dNew b)).2).1, (dNext b (dNext b (dStore b (dNew b)).1 (dStore b (dNew b)).2).1 (dNext b (dStore b (dNew b)).1 (dStore b (dNew b)).2).2).1) := Prod.ext rfl (Prod.ext rfl (if_neg h21))
    refine AW_condF rfl ?_
    refine AW_skip ?_
    refine AW_seq ?_
    refine AW_draw rfl ?_
    refine AL_p (x_loadN (n := 1) rfl rfl rfl (by kernel_rfl) rfl rfl) ?_
    refine AL_p (x_loadN (n := 1) rfl rfl rfl (by kernel_rfl) rfl rfl) ?_
    refine AL_p (x_loadN (n := 1) rfl rfl rfl (by kernel_rfl) rfl rfl) ?_
    refine AL_p (x_store (n := 1) rfl rfl rfl rfl (by kernel_rfl) rfl rfl rfl) ?_
    refine AL_p (x_store (n := 1) rfl rfl rfl rfl (by kernel_rfl) rfl rfl rfl) ?_
    refine AL_p (x_store (n := 1) rfl rfl rfl rfl (by kernel_rfl) rfl rfl rfl) ?_
    refine AL_nild (by kernel_rfl) ?_
    refine AW_ret ?_
    exact ⟨rn [(9, 100), (8, 101), (7, 102)], ⟨⟨⟨_, rfl, VLe.rf⟩, ⟨_, rfl, VLe.rf⟩, ⟨_, rfl, VLe.rf⟩, trivial⟩, ⟨⟨_, rfl, by first | exact BLe.rf | exact ble_eq (by rw [hno]; first | done | rfl)⟩, ⟨_, rfl, by first | exact BLe.rf | exact ble_eq (by rw [hno]; first | done | rfl)⟩, ⟨_, rfl, by first | exact BLe.rf | exact ble_eq (by rw [hno]; first | done | rfl)⟩, trivial⟩, by repeat (first | exact trivial | refine ⟨⟨rfl, by first | (left; intro h; cases h) | (right; rfl), by first | exact (fun _ h => ⟨_, h⟩) | exact (fun _ _ => ⟨_, rfl⟩) | (intro _ h; cases h)⟩, ?_⟩), rfl⟩⟩
  try simp only [tdy] at h21
  have hno : (dMake b (dNew b)) = ((dStore b (dNew b)).1, (dNext b (dStore b (dNew b)).1 (dStore b (dNew b)).2).1, (dStore b (dNew b)).1) := Prod.ext rfl (Prod.ext rfl (if_pos h21))
  refine AW_condT rfl ?_
  refine AW_region ?_
  refine AL_p (x_loadN (n := 1) rfl rfl rfl (by kernel_rfl) rfl rfl) ?_
  refine AL_p (x_call1 rfl rfl rfl (copySt_c (dStore b (dNew b)).1 f1 f2 107) rfl rfl rfl rfl) ?_
  refine AL_p (x_store (n := 1) rfl rfl rfl rfl (by kernel_rfl) rfl rfl rfl) ?_
  refine AL_nil ?_
  refine AW_seq ?_
  refine AW_shutB 107 106 0 rfl rfl rfl rfl ?_
  refine AW_draw rfl ?_
  refine AL_p (x_loadN (n := 1) rfl rfl rfl (by kernel_rfl) rfl rfl) ?_
  refine AL_p (x_loadN (n := 1) rfl rfl rfl (by kernel_rfl) rfl rfl) ?_
  refine AL_p (x_loadN (n := 1) rfl rfl rfl (by kernel_rfl) rfl rfl) ?_
  refine AL_p (x_store (n := 1) rfl rfl rfl rfl (by kernel_rfl) rfl rfl rfl) ?_
  refine AL_p (x_store (n := 1) rfl rfl rfl rfl (by kernel_rfl) rfl rfl rfl) ?_
  refine AL_p (x_store (n := 1) rfl rfl rfl rfl (by kernel_rfl) rfl rfl rfl) ?_
  refine AL_nild (by kernel_rfl) ?_
  refine AW_ret ?_
  exact ⟨rn [(9, 100), (8, 101), (7, 102)], ⟨⟨⟨_, rfl, VLe.rf⟩, ⟨_, rfl, VLe.rf⟩, ⟨_, rfl, VLe.rf⟩, trivial⟩, ⟨⟨_, rfl, by first | exact BLe.rf | exact ble_eq (by rw [hno]; first | done | rfl)⟩, ⟨_, rfl, by first | exact BLe.rf | exact ble_eq (by rw [hno]; first | done | rfl)⟩, ⟨_, rfl, by first | exact BLe.rf | exact ble_eq (by rw [hno]; first | done | rfl)⟩, trivial⟩, by repeat (first | exact trivial | refine ⟨⟨rfl, by first | (left; intro h; cases h) | (right; rfl), by first | exact (fun _ h => ⟨_, h⟩) | exact (fun _ _ => ⟨_, rfl⟩) | (intro _ h; cases h)⟩, ?_⟩), rfl⟩⟩

theorem makeS_x (b : List Int) (hb : b.length ≤ 1048576) : ∃ (x y z : Storet), ThreeS x y z ∧ AC Tryz.prog 27 [.one (.sl (intE .u8) b)] [] (.tup [.agg (storeC x), .agg (storeC y), .agg (storeC z)]) [] := ⟨⟨_⟩, ⟨_⟩, ⟨_⟩, dMake_three b _, makeS_c b hb⟩
end Go.Proofs.YtibhoanjglfaoaaGreat

/- The order of rows once more: the program's compare functions only lay blocks behind the heap. -/
namespace Go.Proofs.YtibhoanjglfaoaaGreat
open Go.RowKit
set_option linter.unusedVariables false

/-- Draws and new blocks, nothing else. -/
def Lay (w w' : World) : Prop := ∃ q os, w' = Go.Sort.grow (w.drewN q) os
theorem Lay.refl (w : World) : Lay w w := ⟨0, #[], by rw [Go.Sort.grow_empty]; rfl⟩
theorem Lay.trans {a b c : World} (h : Lay a b) (k : Lay b c) : Lay a c := by
  obtain ⟨q, os, rfl⟩ := h
  obtain ⟨q', os', rfl⟩ := k
  refine ⟨q + q', os ++ os', ?_⟩
  have e : (Go.Sort.grow (a.drewN q) os).drewN q' = Go.Sort.grow (a.drewN (q + q')) os := by simp [Go.Sort.grow, World.drewN, Nat.add_assoc]
  rw [e, Go.Sort.grow_grow]
theorem Lay.alloc {a b : World} (h : Lay a b) (o : Obj) : Lay a (b.alloc o) := h.trans ⟨0, #[o], by rw [Go.Sort.alloc_eq_grow]; rfl⟩
theorem Lay.drewN {a b : World} (h : Lay a b) (n : Nat) : Lay a (b.drewN n) := h.trans ⟨n, #[], by rw [Go.Sort.grow_empty]⟩

set_option maxHeartbeats 400000 in
theorem byValue_lay (a b : Val) (w : World) (ha : valOk a = true) (hb : valOk b = true) :
    Calls Tryz.prog 125 #[.agg #[.int .i64 a.n, .string a.s], .agg #[.int .i64 b.n, .string b.s]] w fun e w' => e = .returned (.int .i64 (cmpVal a b)) ∧ Below w.heap.size w w' ∧ Lay w w' := by
  obtain ⟨a1, a2⟩ := valOk_range ha
  obtain ⟨b1, b2⟩ := valOk_range hb
  clear ha hb
  obtain ⟨an, sa⟩ := a
  obtain ⟨bn, sb⟩ := b
  dsimp only at *
  cases hqa : sa.toList.isEmpty <;> cases hqb : sb.toList.isEmpty
  all_goals
    have HR := Lib.hid (show cmpVal ⟨an, sa⟩ ⟨bn, sb⟩ = _ by simp only [cmpVal, hqa, hqb]; exact rfl)
    go_enter Tryz.func125, Tryz.ntmps125
    go_wp2_with (first | (go_at_call 156; refine (strCompare_any _ _ _).mono ?_; rintro e w' ⟨rfl, rfl⟩))
    go_ret
    refine ⟨ret_int ?_, ((Below.refl _ _).alloc (Nat.le_refl _) _).alloc (by simp) _, ((Lay.refl _).alloc _).alloc _⟩
    rw [HR.out]
    rfl

set_option maxHeartbeats 800000 in
theorem cmpFunc_lay (a : Option Addr) (n cap : Nat) (xs : List Val) (bs : List Nat) (b : Option Addr) (m cap' : Nat) (ys : List Val) (bs' : List Nat) (w : World) (h : SliceRep valE w a n cap xs bs) (h' : SliceRep valE w b m cap' ys bs')
    (hx : ∀ v ∈ xs, valOk v = true) (hy : ∀ v ∈ ys, valOk v = true) :
    Calls Tryz.prog 124 #[.slice a n cap, .slice b m cap', .func (.func 125) #[] #[]] w fun e w' => e = .returned (.int .i64 (cmpRow xs ys)) ∧ Below w.heap.size w w' ∧ Lay w w' := by
  have hmax := h.max
  have hmax' := h'.max
  obtain rfl := h.1
  obtain rfl := h'.1
  go_enter Tryz.func124, Tryz.ntmps124
  go_wp2
  go_loopw [13] (fun i W => ∃ k : Nat, k ≤ xs.length ∧ k ≤ ys.length ∧ i = .int .i64 k ∧ Hid (cmpRow xs ys = cmpRow (xs.drop k) (ys.drop k)) ∧ Held w [] W ∧ Lay w W) (fun i _ => xs.length - (intOf i).toNat)
  case atStart => exact ⟨0, Nat.zero_le _, Nat.zero_le _, rfl, rfl, Held.start w, Lay.refl w⟩
  case round =>
    obtain ⟨k, hk, hk', rfl, HC, H, HL⟩ := hrel
    by_cases hlt : k < xs.length
    · obtain ⟨g, off, rfl, c0, c1, hs, hn⟩ := (h.up H.below).val hlt
      by_cases hlt' : k < ys.length
      · obtain ⟨g', off', rfl, d0, d1, hs', hn'⟩ := (h'.up H.below).val hlt'
        have hvx := hx xs[k] (List.getElem_mem hlt)
        have hvy := hy ys[k] (List.getElem_mem hlt')
        have e0 := cell_alloc d0 (.cells #[.int .i64 xs[k].n, .string xs[k].s] 147)
        have e1 := cell_alloc d1 (.cells #[.int .i64 xs[k].n, .string xs[k].s] 147)
        have H1 := (H.alloc (.cells #[.int .i64 xs[k].n, .string xs[k].s] 147)).alloc (.cells #[.int .i64 ys[k].n, .string ys[k].s] 147)
        by_cases hz : cmpVal xs[k] ys[k] = 0
        · have hzb : (cmpVal xs[k] ys[k] != 0) = false := by simp [hz]
          have HC' : Hid (cmpRow xs ys = cmpRow (xs.drop (k + 1)) (ys.drop (k + 1))) := by
            have := HC.out
            rw [drop_cons hlt, drop_cons hlt', cmpRow, if_pos hz] at this
            exact this
          clear HC hz
          go_wp2_with fail
          refine (byValue_lay _ _ _ hvx hvy).mono ?_
          rintro e w1 ⟨rfl, hb1, hl1⟩
          have HL2 := ((HL.alloc (.cells #[.int .i64 xs[k].n, .string xs[k].s] 147)).alloc (.cells #[.int .i64 ys[k].n, .string ys[k].s] 147)).trans hl1
          have H2 := H1.up hb1
          clear H H1 hb1 c0 c1 d0 d1 e0 e1
          go_wp2_with fail
          go_roundw
          case rel => exact ⟨k + 1, by omega, by omega, by go_num, HC', H2, HL2⟩
          case measure => simp [intOf]; omega
        · have hzb : (cmpVal xs[k] ys[k] != 0) = true := by simp [hz]
          have HC' : Hid (cmpRow xs ys = cmpVal xs[k] ys[k]) := by
            have := HC.out
            rw [drop_cons hlt, drop_cons hlt', cmpRow, if_neg hz] at this
            exact this
          clear HC hz
          go_wp2_with fail
          refine (byValue_lay _ _ _ hvx hvy).mono ?_
          rintro e w1 ⟨rfl, hb1, hl1⟩
          have HL2 := ((HL.alloc (.cells #[.int .i64 xs[k].n, .string xs[k].s] 147)).alloc (.cells #[.int .i64 ys[k].n, .string ys[k].s] 147)).trans hl1
          have H2 := H1.up hb1
          clear H H1 hb1 c0 c1 d0 d1 e0 e1
          go_wp2_with fail
          go_ret
          exact ⟨ret_int HC'.out.symm, H2.below, HL2⟩
      · obtain rfl : k = ys.length := by omega
        have HC' : Hid (cmpRow xs ys = 1) := by
          have := HC.out
          rw [drop_cons hlt, List.drop_length, cmpRow] at this
          exact this
        have H1 := H.alloc (.cells #[.int .i64 xs[ys.length].n, .string xs[ys.length].s] 147)
        clear HC
        go_wp2_with fail
        go_ret
        exact ⟨ret_int HC'.out.symm, H1.below, HL.alloc _⟩
    · obtain rfl : k = xs.length := by omega
      by_cases hlt' : xs.length < ys.length
      · have HC' : Hid (cmpRow xs ys = -1) := by
          have := HC.out
          rw [drop_cons hlt', List.drop_length, cmpRow] at this
          exact this
        clear HC
        go_wp2_with fail
        go_ret
        exact ⟨ret_int HC'.out.symm, H.below, HL⟩
      · have HC' : Hid (cmpRow xs ys = 0) := by
          have := HC.out
          rw [show xs.length = ys.length by omega, List.drop_length, ← show xs.length = ys.length by omega, List.drop_length, cmpRow] at this
          exact this
        clear HC
        go_wp2_with fail
        go_ret
        exact ⟨ret_int HC'.out.symm, H.below, HL⟩

set_option maxHeartbeats 400000 in
theorem byRow_lay (a : Option Addr) (n cap : Nat) (xs : List Val) (bs : List Nat) (b : Option Addr) (m cap' : Nat) (ys : List Val) (bs' : List Nat) (w : World) (h : SliceRep valE w a n cap xs bs) (h' : SliceRep valE w b m cap' ys bs')
    (hx : ∀ v ∈ xs, valOk v = true) (hy : ∀ v ∈ ys, valOk v = true) :
    Calls Tryz.prog 82 #[.agg #[.slice a n cap], .agg #[.slice b m cap']] w fun e w' => e = .returned (.int .i64 (cmpRow xs ys)) ∧ Below w.heap.size w w' ∧ Lay w w' := by
  have H0 := ((Held.start w).box_ #[.slice a n cap] 72).box_ #[.slice b m cap'] 72
  go_enter Tryz.func82, Tryz.ntmps82
  go_wp2_with fail
  refine (cmpFunc_lay _ _ _ xs _ _ _ _ ys _ _ (h.up H0.below) (h'.up H0.below) hx hy).mono ?_
  rintro e w1 ⟨rfl, hb1, hl1⟩
  go_wp2_with fail
  go_ret
  exact ⟨rfl, (H0.up hb1).below, (((Lay.refl w).alloc _).alloc _).trans hl1⟩
end Go.Proofs.YtibhoanjglfaoaaGreat

/- What a function does with the elements of one array in its place. -/
namespace Go.Proofs.YtibhoanjglfaoaaGreat
open Go.RowKit
set_option linter.unusedVariables false

theorem AC.inplace {P : Program} {fid : FuncId} {rest : List AVal} {α : Type} {e : Enc α} {f : α → List Cell} [hc : CellsOf e f] {E : TypeId} {xs ys : List α} {d : Bool} (hfn : Callable P fid)
    (h : ∀ (w : World) (v : Value) (vs cells : List Value) (bs : List Nat) (g : Gh), All2 (VR1 g [(0, some (Blk.arr E e xs d))] w) vs rest → w.ownsRow 0 E e.size v xs.length cells → FR w cells (xs.flatMap f) bs → (∀ u ∈ cells, u.oneCell' = true) → (∀ b ∈ bs, v.ownBlock ≠ some b) →
      Calls P fid (v :: vs).toArray w fun en w' => en = .returned (.tuple #[]) ∧ ∃ cells' bs', w'.ownsRow 0 E e.size v ys.length cells' ∧ w.grownBy w' v.ownBlock ∧ FR w cells' (ys.flatMap f) bs' ∧ bs'.Perm bs) :
    AC P fid (.one (.own 0) :: rest) [(0, some (.arr E e xs d))] (.tup []) [(0, some (.arr E e ys d))] := by
  refine ⟨hfn, fun g w cargs m ha => ?_⟩
  have hk : lkl [(0, some (Blk.arr E e xs d))] 0 = some (.arr E e xs d) := rfl
  obtain ⟨cells, bs, r1, f1, i1, F1, ob1⟩ := (m.arr 0 _ _ _ _ _ hk).row
  have : ∃ v vs, cargs = (v :: vs).toArray := by
    cases hc' : cargs.toList with
    | nil => rw [hc'] at ha; exact ha.elim
    | cons v vs => exact ⟨v, vs, by rw [← hc', Array.toArray_toList]⟩
  obtain ⟨v, vs, rfl⟩ := this
  have hv : v = g.hd 0 := ha.1 _ _ _ _ _ hk
  subst hv
  have hlive : ∀ b, (g.hd 0).ownBlock = some b → g.hd 0 ≠ .slice none 0 0 := fun b hb e0 => by rw [e0] at hb; cases hb
  have hnI : ∀ b, (g.hd 0).ownBlock = some b → ¬ g.I b := fun b hb => by rw [ob1 b hb]; exact m.notI hk (hlive b hb)
  refine (h w _ vs cells bs g ha.2 r1 f1 (FR.one f1) (fun b hb e0 => hnI b e0 (i1 b hb))).mono ?_
  rintro en w' ⟨rfl, cells', bs', t1, t2, t3, t4⟩
  have hkeepI : ∀ b, g.I b → w'.heap[b]? = w.heap[b]? := fun b hb => t2.block b (m.ilt b hb) fun e0 => hnI b e0.symm hb
  have hI' : ∀ b ∈ bs', g.I b := fun b hb => i1 b (t4.mem_iff.1 hb)
  have hFR := t3.keep (w' := w') (fun b hb => hkeepI b (hI' b hb)) t2.size
  let g2 : Gh := ⟨g.I, g.ρ, g.hd, fun _ => bs'⟩
  have hlk : ∀ k b, lkl [(0, some (Blk.arr E e ys d))] k = some b → k = 0 ∧ b = .arr E e ys d := fun k b hb => by
    by_cases hk0 : k = 0
    · subst hk0; exact ⟨rfl, by cases hb; rfl⟩
    · rw [lkl_cons_ne (Ne.symm hk0)] at hb; cases hb
  have m2 : MemR g2 [(0, some (.arr E e ys d))] w' := by
    refine ⟨fun b hb => Nat.lt_of_lt_of_le (m.ilt b hb) t2.size, fun k cs hb => ?_, fun k β T e2 ys2 d2 hb => ?_, fun j k b b' hjk hj hk' => ?_, fun k β T e2 ys2 hb => ?_, fun j k β γ T U e2 e3 ys2 zs2 hjk hj hk' => ?_⟩
    · have := (hlk _ _ hb).2; cases this
    · obtain ⟨rfl, h2⟩ := hlk _ _ hb
      cases h2
      exact ArrR.ofRow (g := g2) (e := e) (f := f) (cells := cells') (bs := bs') t1 hFR hI' (fun _ => rfl) fun b hb => ⟨ob1 b hb, hnI b hb⟩
    · obtain ⟨rfl, _⟩ := hlk _ _ hj
      obtain ⟨rfl, _⟩ := hlk _ _ hk'
      exact absurd rfl hjk
    · obtain ⟨rfl, h2⟩ := hlk _ _ hb
      cases h2
      obtain ⟨n1, n2⟩ := m.fr 0 _ _ _ _ hk
      rw [F1 rfl] at n1 n2
      refine ⟨t4.nodup_iff.2 n1, fun b hb => ?_⟩
      obtain ⟨p1, c, t, p2⟩ := n2 b (t4.mem_iff.1 hb)
      exact ⟨p1, c, t, by rw [hkeepI b p1]; exact p2⟩
    · obtain ⟨rfl, _⟩ := hlk _ _ hj
      obtain ⟨rfl, _⟩ := hlk _ _ hk'
      exact absurd rfl hjk
  refine ⟨_, g2, rfl, m2, ⟨[], rfl, trivial⟩, ⟨t2.os, t2.tape, t2.output, t2.size, fun b hb hn => t2.block b hb fun e0 => hn 0 _ hk (hlive b e0.symm) (ob1 b e0.symm), fun _ h => h, fun _ h => .inl h, fun b hb => ?_, fun k hk' _ => ?_⟩⟩
  · obtain ⟨k, blk, h1, h2⟩ := hb
    obtain ⟨rfl, rfl⟩ := hlk _ _ h1
    left
    rcases h2 with ⟨h2, h3⟩ | ⟨β, T, e2, xs2, h2, h3⟩
    · exact ⟨0, _, hk, .inl ⟨h2, h3⟩⟩
    · cases h2
      exact ⟨0, _, hk, .inr ⟨_, _, _, _, rfl, by rw [F1 rfl]; exact t4.mem_iff.1 h3⟩⟩
  · simp [keys] at hk'
    subst hk'
    refine ⟨by simp [lk], ⟨fun cs' h => (by have := (hlk _ _ h).2; cases this), fun β T e2 xs2 d2 h => ?_⟩, fun cs h => (by rw [hk] at h; cases h)⟩
    obtain ⟨_, h2⟩ := hlk _ _ h
    cases h2
    exact ⟨_, _, _, _, _, hk, rfl, rfl, rfl⟩
end Go.Proofs.YtibhoanjglfaoaaGreat

/-
  DERIVED: THE SHELF's CONTRACTS AT THIS DUMP, IN PLAIN WORDS (tools/lay-plain.mjs out of 'TryShelf.lean', which tools/lay-shelf.mjs wrote): THE SAME DECLARATIONS UNDER THE SAME NAMES: 'import', 'namespace', 'open', 'def', 'theorem' AND NOTHING ELSE: no command of the shelf's: FOR A HAND-IN. Each laying: the table of numbers ('.._ren') and one theorem, a field a fact of the dump's own or the kernel's comparison; each contract: ONE APPLICATION.
-/
namespace Go.Proofs
open Go.Shelf
def Tryz.laysSort_ren : Go.Shelf.Ren := ⟨fun | 6 => 81 | 15 => 123 | 14 => 122 | 28 => 154 | 29 => 155 | 20 => 146 | 21 => 147 | 22 => 148 | 23 => 149 | 24 => 150 | 25 => 151 | 26 => 152 | 27 => 153 | 46 => 170 | 47 => 171 | 48 => 172 | 49 => 173 | 50 => 174 | 57 => 183 | n => n, fun | 22 => 61 | 24 => 72 | 25 => 111 | 3 => 3 | 39 => 151 | 0 => 0 | 53 => 177 | 55 => 179 | 4 => 4 | 46 => 171 | 45 => 170 | 50 => 155 | 5 => 5 | 9 => 9 | 66 => 191 | 70 => 195 | 76 => 201 | 77 => 202 | n => n, fun | n => n⟩
theorem Tryz.laysSort : Go.Proofs.SlLaysF0.n6 Tryz.prog Tryz.laysSort_ren := {
  mixed := by kernel_rfl
  f6 := ⟨Tryz.f81.name, by decide, Tryz.func81.trans (congrArg some (by kernel_rfl))⟩
  f14 := ⟨Tryz.f122.name, by decide, Tryz.func122.trans (congrArg some (by kernel_rfl))⟩
  f15 := Tryz.func123.trans (congrArg some (by kernel_rfl))
  f20 := ⟨Tryz.f146.name, by decide, Tryz.func146.trans (congrArg some (by kernel_rfl))⟩
  f21 := ⟨Tryz.f147.name, by decide, Tryz.func147.trans (congrArg some (by kernel_rfl))⟩
  f22 := ⟨Tryz.f148.name, by decide, Tryz.func148.trans (congrArg some (by kernel_rfl))⟩
  f23 := ⟨Tryz.f149.name, by decide, Tryz.func149.trans (congrArg some (by kernel_rfl))⟩
  f24 := ⟨Tryz.f150.name, by decide, Tryz.func150.trans (congrArg some (by kernel_rfl))⟩
  f25 := ⟨Tryz.f151.name, by decide, Tryz.func151.trans (congrArg some (by kernel_rfl))⟩
  f26 := ⟨Tryz.f152.name, by decide, Tryz.func152.trans (congrArg some (by kernel_rfl))⟩
  f27 := ⟨Tryz.f153.name, by decide, Tryz.func153.trans (congrArg some (by kernel_rfl))⟩
  f28 := Tryz.func154.trans (congrArg some (by kernel_rfl))
  f29 := Tryz.func155.trans (congrArg some (by kernel_rfl))
  f46 := ⟨Tryz.f170.name, by decide, Tryz.func170.trans (congrArg some (by kernel_rfl))⟩
  f47 := Tryz.func171.trans (congrArg some (by kernel_rfl))
  f48 := Tryz.func172.trans (congrArg some (by kernel_rfl))
  f49 := ⟨Tryz.f173.name, by decide, Tryz.func173.trans (congrArg some (by kernel_rfl))⟩
  f50 := ⟨Tryz.f174.name, by decide, Tryz.func174.trans (congrArg some (by kernel_rfl))⟩
  f57 := ⟨Tryz.f183.name, by decide, Tryz.func183.trans (congrArg some (by kernel_rfl))⟩
  t0 := Tryz.underlying0
  a0 := Tryz.isAgg0
  z0 := Tryz.sizeOf0
  v0 := Tryz.zeroValue0
  t3 := Tryz.underlying3
  a3 := Tryz.isAgg3
  z3 := Tryz.sizeOf3
  v3 := Tryz.zeroValue3
  t4 := Tryz.underlying4
  a4 := Tryz.isAgg4
  z4 := Tryz.sizeOf4
  v4 := Tryz.zeroValue4
  t5 := Tryz.underlying5
  a5 := Tryz.isAgg5
  z5 := Tryz.sizeOf5
  v5 := Tryz.zeroValue5
  t9 := Tryz.underlying9
  a9 := Tryz.isAgg9
  z9 := Tryz.sizeOf9
  v9 := Tryz.zeroValue9
  t22 := Tryz.underlying61
  a22 := Tryz.isAgg61
  z22 := Tryz.sizeOf61
  v22 := Tryz.zeroValue61
  t25 := Tryz.underlying111
  a25 := Tryz.isAgg111
  z25 := Tryz.sizeOf111
  v25 := Tryz.zeroValue111
  t39 := Tryz.underlying151
  a39 := Tryz.isAgg151
  z39 := Tryz.sizeOf151
  v39 := Tryz.zeroValue151
  t45 := Tryz.underlying170
  a45 := Tryz.isAgg170
  z45 := Tryz.sizeOf170
  v45 := Tryz.zeroValue170
  t46 := Tryz.underlying171
  a46 := Tryz.isAgg171
  z46 := Tryz.sizeOf171
  v46 := Tryz.zeroValue171
  t50 := Tryz.underlying155
  a50 := Tryz.isAgg155
  z50 := Tryz.sizeOf155
  v50 := Tryz.zeroValue155
  t53 := Tryz.underlying177
  a53 := Tryz.isAgg177
  z53 := Tryz.sizeOf177
  v53 := Tryz.zeroValue177
  t55 := Tryz.underlying179
  a55 := Tryz.isAgg179
  z55 := Tryz.sizeOf179
  v55 := Tryz.zeroValue179
  t66 := Tryz.underlying191
  a66 := Tryz.isAgg191
  z66 := Tryz.sizeOf191
  v66 := Tryz.zeroValue191
  t70 := Tryz.underlying195
  a70 := Tryz.isAgg195
  z70 := Tryz.sizeOf195
  v70 := Tryz.zeroValue195
  t76 := Tryz.underlying201
  a76 := Tryz.isAgg201
  z76 := Tryz.sizeOf201
  v76 := Tryz.zeroValue201
  t77 := Tryz.underlying202
  a77 := Tryz.isAgg202
  z77 := Tryz.sizeOf202
  v77 := Tryz.zeroValue202 }
end Go.Proofs

/- slices.SortFunc on rows: the library's contract ars one on an array of one's own. -/
namespace Go.Proofs.YtibhoanjglfaoaaGreat
open Go.RowKit
set_option linter.unusedVariables false

/-- A row of the world, its block g apart. -/
abbrev RowAt (w : World) (g : Nat) : Type := { r : Raw (List Val) // rowE.rep w r.vs r.x r.b ∧ (∀ v ∈ r.x, valOk v = true) ∧ ∀ b ∈ r.b, b ≠ g }
instance {w : World} {g : Nat} : Inhabited (RowAt w g) := ⟨⟨⟨[], [.slice none 0 0], []⟩, rowE_rep.2 ⟨none, 0, 0, rfl, rfl, Nat.le_refl _, Nat.zero_le _, fun _ => rfl, .inl ⟨rfl, rfl⟩⟩, fun v h => (by cases h), fun b h => (by cases h)⟩⟩
def encR (w : World) (g : Nat) (r : RowAt w g) : List Value := r.1.vs
def cmpR (w : World) (g : Nat) (a b : RowAt w g) : Int := cmpRow a.1.x b.1.x
section
variable {w : World} {g : Nat}
theorem encR_one (r : RowAt w g) : ∃ a n c, r.1.vs = [.slice a n c] := by
  obtain ⟨a, n, c, h, _⟩ := rowE_rep.1 r.2.1
  exact ⟨a, n, c, h⟩
theorem sortw_heap {n : Nat} {d : Array (RowAt w g)} {os : Array Obj} {b : Nat} (hb : b < w.heap.size) (hne : b ≠ g) : (sortWorldK (encR w g) 1 w g 0 n d os).heap[b]? = w.heap[b]? := by
  unfold sortWorldK
  rw [Go.Sort.heap_grow_old _ _ (by simpa [Go.Sort.putRowK, Go.Sort.ahead] using hb)]
  simp [Go.Sort.putRowK, Go.Sort.putRow, Go.Sort.mapBlock, Go.Sort.ahead, Array.getElem?_modify, Ne.symm hne]
theorem swoR : Go.Sort.SWO (ltOf (cmpR w g)) where
  irrefl x := by simp [ltOf, cmpR, cmpRow_self]
  trans x y z h1 h2 := by
    have h1 : cmpRow x.1.x y.1.x < 0 := of_decide_eq_true h1
    have h2 : cmpRow y.1.x z.1.x < 0 := of_decide_eq_true h2
    exact decide_eq_true (cmpRow_trans x.2.2.1 y.2.2.1 z.2.2.1 h1 h2)
  ntrans x y z h1 h2 := by
    have h1 : ¬ cmpRow x.1.x y.1.x < 0 := of_decide_eq_false h1
    have h2 : ¬ cmpRow y.1.x z.1.x < 0 := of_decide_eq_false h2
    refine decide_eq_false fun h3 => ?_
    have h3 : cmpRow x.1.x z.1.x < 0 := h3
    by_cases h : cmpRow x.1.x y.1.x = 0
    · have := cmpRow_eq x.2.2.1 y.2.2.1 h
      rw [this] at h3; exact h2 h3
    · have hyx : cmpRow y.1.x x.1.x < 0 := by rw [cmpRow_neg]; omega
      exact h2 (cmpRow_trans y.2.2.1 x.2.2.1 z.2.2.1 hyx h3)
theorem cmpLaysR (size : Nat) : CmpLays Tryz.prog 82 #[] (encR w g) 1 (cmpR w g) g 0 size w := fun m os dk hs x y => by
  have up : ∀ r : RowAt w g, rowE.rep (sortWorldK (encR w g) 1 w g 0 m dk os) r.1.vs r.1.x r.1.b := fun r =>
    rowE.keep r.2.1 (fun b hb => sortw_heap (rowE.lt r.2.1 b hb) (r.2.2.2 b hb)) (by
      unfold sortWorldK
      rw [Go.Sort.size_grow]
      simp [Go.Sort.putRowK, Go.Sort.ahead])
  obtain ⟨a, n, c, h1, h2⟩ := rowE_rep.1 (up x)
  obtain ⟨a', n', c', h1', h2'⟩ := rowE_rep.1 (up y)
  generalize sortWorldK (encR w g) 1 w g 0 m dk os = W at *
  have e : (#[.agg (encR w g x).toArray, .agg (encR w g y).toArray] ++ #[] : Array Value) = #[.agg #[.slice a n c], .agg #[.slice a' n' c']] := by simp [encR, h1, h1']
  rw [e]
  refine (byRow_lay a n c x.1.x x.1.b a' n' c' y.1.x y.1.b W h2 h2' x.2.2.1 y.2.2.1).mono ?_
  rintro e w' ⟨rfl, _, hl⟩
  exact ⟨rfl, hl⟩
end
theorem raw_all {α : Type} {e : Enc α} (h0 : 0 < e.size) {w : World} : ∀ {zs : List (Raw α)} {cells : List Value} {b3 : List Nat}, FR w cells (zs.flatMap fun r => rxC e r e.size 0) b3 → cells = zs.flatMap Raw.vs ∧ ∀ r ∈ zs, e.rep w r.vs r.x r.b
  | [], [], b3, h => ⟨rfl, fun r hr => by cases hr⟩
  | [], _ :: _, b3, h => h.elim
  | r :: zs, cells, b3, h => by
    rw [List.flatMap_cons] at h
    obtain ⟨v1, v2, b1, b2, rfl, rfl, h1, h2⟩ := FR.app.1 h
    obtain ⟨rfl, hr⟩ := rx_rep h0 h1
    obtain ⟨e2, h3⟩ := raw_all h0 h2
    refine ⟨by rw [List.flatMap_cons, e2], fun q hq => ?_⟩
    rcases List.mem_cons.1 hq with rfl | hq
    · exact hr
    · exact h3 q hq
theorem lift_all {β : Type} {p : β → Prop} : ∀ {zs : List β}, (∀ r ∈ zs, p r) → ∃ l : List { r // p r }, l.map (·.1) = zs
  | [], _ => ⟨[], rfl⟩
  | z :: zs, h => by
    obtain ⟨l, hl⟩ := lift_all (zs := zs) fun r hr => h r (List.mem_cons_of_mem _ hr)
    exact ⟨⟨z, h z List.mem_cons_self⟩ :: l, by rw [List.map_cons, hl]⟩
def hdR {w : World} {g : Nat} (r : RowAt w g) : Value := r.1.vs.headD (.slice none 0 0)
theorem encR_hd {w : World} {g : Nat} (r : RowAt w g) : encR w g r = [hdR r] := by
  obtain ⟨a, n, c, h⟩ := encR_one r
  simp [encR, hdR, h]
theorem flatR {w : World} {g : Nat} (l : List (RowAt w g)) : (l.map (·.1)).flatMap Raw.vs = l.map hdR := by
  induction l with
  | nil => rfl
  | cons r l ih =>
    have := encR_hd r
    rw [List.map_cons, List.flatMap_cons, ih, List.map_cons]
    show r.1.vs ++ _ = _
    rw [show r.1.vs = encR w g r from rfl, this]; rfl
theorem frR {w : World} {g : Nat} : ∀ (l : List (RowAt w g)), FR w (l.map hdR) ((l.map (·.1.x)).flatMap rowC) (feet (l.map (·.1)))
  | [] => rfl
  | r :: l => by
    rw [List.map_cons, List.map_cons, List.flatMap_cons]
    have h1 : FR w [hdR r] (rowC r.1.x) r.1.b := by
      rw [← encR_hd r]
      exact (CellsOf.iff (e := rowE)).1 r.2.1
    exact FR.app.2 ⟨[hdR r], _, _, _, rfl, by simp [feet], h1, frR l⟩
theorem flatK_map {w : World} {g : Nat} (d : Array (RowAt w g)) : Go.Sort.flatK (encR w g) 1 d = (d.toList.map hdR).toArray := by
  apply Go.Sort.ext_get!
  · simp
  · intro t ht
    have ht' : t < d.size := by simpa using ht
    rw [Go.Sort.get_flatK _ _ _ _ (by simpa using ht'), Nat.div_one, Nat.mod_one, encR_hd, getElem!_pos d t ht', getElem!_pos (d.toList.map hdR).toArray t (by simpa using ht')]
    simp
theorem putAll {cur : Array Value} {vs : List Value} (h : vs.length ≤ cur.size) : (Go.Sort.putCells id 0 vs.toArray cur).toList.take vs.length = vs := by
  apply List.ext_getElem?
  intro j
  by_cases hj : j < vs.length
  · rw [List.getElem?_take_of_lt hj, Array.getElem?_toList]
    simp [Go.Sort.putCells, hj, show j < cur.size by omega]
  · rw [List.getElem?_take_eq_none (by omega), List.getElem?_eq_none (by omega)]

set_option maxRecDepth 100000 in
theorem insNil (w : World) : Calls Tryz.prog 146 #[.slice none 0 0, .int .i64 0, .int .i64 0, .func (.func 82) #[] #[]] w fun en w' => en = .returned (.tuple #[]) ∧ Below w.heap.size w w' := by
  go_enter Tryz.func146, Tryz.ntmps146
  go_wp2
  go_loopw [8] (fun i W => i = .int .i64 1 ∧ Held w [] W) (fun _ _ => 0)
  case atStart => exact ⟨rfl, Held.start w⟩
  case round =>
    obtain ⟨rfl, H⟩ := hrel
    go_wp2_with fail
    go_end0
    exact ⟨rfl, H.below⟩
set_option maxRecDepth 100000 in
theorem pdqNil (w : World) : Calls Tryz.prog 122 #[.slice none 0 0, .int .i64 0, .int .i64 0, .int .i64 0, .func (.func 82) #[] #[]] w fun en w' => en = .returned (.tuple #[]) ∧ Below w.heap.size w w' := by
  go_enter Tryz.func122, Tryz.ntmps122
  go_wp2
  go_loopw [1, 2] (fun i j W => i = .int .i64 0 ∧ j = .int .i64 0 ∧ Held w [] W) (fun _ _ _ => 0)
  case atStart => exact ⟨rfl, rfl, Held.start w⟩
  case round =>
    obtain ⟨rfl, rfl, H⟩ := hrel
    go_wp2_with fail
    refine (insNil _).mono ?_
    rintro e w1 ⟨rfl, hb⟩
    go_wp2_with fail
    refine bodyPost_ret (results_none rfl _ _ _) rfl ?_
    exact ⟨rfl, (H.up hb).below⟩
set_option maxRecDepth 100000 in
theorem sortNil (w : World) : Calls Tryz.prog 81 #[.slice none 0 0, .func (.func 82) #[] #[]] w fun en w' => en = .returned (.tuple #[]) ∧ Below w.heap.size w w' := by
  have L := Tryz.laysSort
  have hl : Calls Tryz.prog 123 #[.int .u64 0] w fun e w' => e = .returned (.int .i64 0) ∧ w' = w := by
    have h := Any.bits_Len (SlLaysF0.n15.bits (P := Tryz.prog) (ρ := Tryz.laysSort_ren) { L with }) 0 w (by omega) (by omega)
    exact h
  go_enter Tryz.func81, Tryz.ntmps81
  go_wp2_with (first | (go_at_call 123; refine hl.mono ?_; rintro e w' ⟨rfl, rfl⟩) | (go_at_call 122; refine (pdqNil _).mono ?_; rintro e w' ⟨rfl, hb⟩))
  go_end0
  exact ⟨rfl, hb⟩

set_option maxHeartbeats 1000000 in
theorem sortRow_any (w : World) (v : Value) (rows : List (List Val)) (cells : List Value) (bs : List Nat) (hown : w.ownsRow 0 72 1 v rows.length cells) (hF : FR w cells (rows.flatMap rowC) bs) (hv : ValsOk rows) (hb : ∀ b ∈ bs, v.ownBlock ≠ some b) (hl : rows.length ≤ 1048576) :
    Calls Tryz.prog 81 #[v, .func (.func 82) #[] #[]] w fun en w' => en = .returned (.tuple #[]) ∧
      ∃ ys cells' bs', ys.Perm rows ∧ Weak ys ∧ w'.ownsRow 0 72 1 v ys.length cells' ∧ w.grownBy w' v.ownBlock ∧ FR w cells' (ys.flatMap rowC) bs' ∧ bs'.Perm bs := by
  rcases hown.2 with ⟨rfl, h0⟩ | ⟨g, cap, cur, rfl, _, hg, hle, hcap, hsz, htk⟩
  · have e0 : rows = [] := List.eq_nil_of_length_eq_zero h0
    subst e0
    refine (sortNil w).mono ?_
    rintro en w' ⟨rfl, hbw⟩
    have e1 : cells = [] := List.eq_nil_of_length_eq_zero (by simpa using hown.1)
    subst e1
    exact ⟨rfl, [], [], bs, List.Perm.refl _, List.Pairwise.nil, ⟨by simp, .inl ⟨rfl, rfl⟩⟩, ⟨hbw.os, hbw.tape, hbw.output, hbw.size, fun k hk _ => hbw.block k hk⟩, hF, List.Perm.refl _⟩
  · have hgl : g < w.heap.size := (Array.getElem?_eq_some_iff.1 hg).1
    obtain ⟨zs, q1, q2, b3, q3, q4⟩ := raw_of (e := rowE) hF
    obtain ⟨rfl, hreps⟩ := raw_all (e := rowE) (by decide) q3
    have H : ∀ r ∈ zs, rowE.rep w r.vs r.x r.b ∧ (∀ v ∈ r.x, valOk v = true) ∧ ∀ b ∈ r.b, b ≠ g := fun r hr => by
      refine ⟨hreps r hr, hv _ (by rw [← q1]; exact List.mem_map_of_mem hr), fun b hbr e => ?_⟩
      have : b ∈ bs := by
        rw [← q2]
        exact List.mem_flatten.2 ⟨r.b, List.mem_map_of_mem hr, hbr⟩
      exact hb b this (by rw [e]; rfl)
    obtain ⟨l, hl1⟩ : ∃ l : List (RowAt w g), l.map (·.1) = zs := lift_all H
    have hx : l.map (fun r => r.1.x) = rows := by rw [← q1, ← hl1, List.map_map]; rfl
    have hll : l.length = rows.length := by rw [← hx, List.length_map]
    have hcl : zs.flatMap Raw.vs = l.map hdR := by rw [← hl1]; exact flatR l
    rw [hcl] at htk hown hF q3
    have hH : Go.Sort.HoldsK (encR w g) 1 w g 0 l.toArray := by
      unfold Go.Sort.HoldsK
      rw [flatK_map]
      intro j hj
      have hj' : j < l.length := by simpa using hj
      refine ⟨?_, by simp [World.frozen?, hg]⟩
      have h1 : (cur.toList.take (rows.length * 1))[j]? = (l.map hdR)[j]? := by rw [htk]
      rw [List.getElem?_take_of_lt (by omega)] at h1
      simp only [World.cell?, hg, Nat.zero_add, Option.isSome_none, Bool.false_eq_true, if_false]
      rw [← Array.getElem?_toList, h1, getElem!_pos _ j hj]
      simp [hj']
    have hc := AnyQ.slices_SortFunc (P := Tryz.prog) (ρ := Tryz.laysSort_ren) Tryz.laysSort 1 Tryz.isAgg72 Tryz.sizeOf72 (encR w g) (fun r => by rw [encR_hd]; rfl) (fun r u hu => by
      obtain ⟨a, n, c, h⟩ := encR_one r
      rw [show encR w g r = r.1.vs from rfl, h] at hu
      rw [List.mem_singleton.1 hu]; rfl) (cmpR w g) swoR 82 #[] g 0 cap l.toArray w (enters_of Tryz.func82 (by kernel_rfl) rfl) (cmpLaysR _) hH hgl (by simp; omega)
    have hsz' : l.toArray.size = rows.length := by simp [hll]
    rw [hsz'] at hc
    refine Calls.mono hc ?_
    rintro en w' ⟨rfl, d, n, os, hp, hs, rfl⟩
    have hds : d.size = rows.length := by rw [hp.1, hsz']
    have hperm : d.toList.Perm l := by
      have h1 := hp.2.2
      have a1 : d.extract 0 rows.length = d := by rw [← hds]; simp
      have a2 : l.toArray.extract 0 rows.length = l.toArray := by rw [← hsz']; simp
      rw [a1, a2] at h1
      exact h1
    have hfl : Go.Sort.flatK (encR w g) 1 d = (d.toList.map hdR).toArray := flatK_map d
    have hcur : (d.toList.map (hdR (w := w) (g := g))).length ≤ cur.size := by rw [List.length_map, Array.length_toList, hds, hsz]; omega
    refine ⟨rfl, d.toList.map (fun r => r.1.x), d.toList.map hdR, feet (d.toList.map (·.1)), ?_, ?_, ⟨by simp, .inr ⟨g, cap, Go.Sort.putCells id 0 (d.toList.map hdR).toArray cur, by simp [hds], Nat.zero_le _, ?_, by simpa [hds] using hle, hcap, by simpa [Go.Sort.putCells] using hsz, ?_⟩⟩, ⟨rfl, rfl, rfl, by
        unfold sortWorldK
        rw [Go.Sort.size_grow]
        simp [Go.Sort.putRowK, Go.Sort.ahead], fun k hk hne => sortw_heap hk fun e => hne (by rw [e]; rfl)⟩, frR _, ?_⟩
    · rw [← hx]; exact hperm.map _
    · refine List.pairwise_iff_getElem.2 fun i j hi hj hij => ?_
      have hi' : i < d.size := by simpa using hi
      have hj' : j < d.size := by simpa using hj
      have h1 := hs i j (Nat.zero_le _) hij (by omega)
      rw [getElem!_pos d i hi', getElem!_pos d j hj'] at h1
      have h2 : ¬ cmpRow d[j].1.x d[i].1.x < 0 := of_decide_eq_false h1
      simpa using h2
    · unfold sortWorldK
      rw [Go.Sort.heap_grow_old _ _ (by simpa [Go.Sort.putRowK, Go.Sort.ahead] using hgl)]
      simp [Go.Sort.putRowK, Go.Sort.putRow, Go.Sort.mapBlock, Go.Sort.ahead, Array.getElem?_modify, hg, Go.Sort.onCells, hfl]
    · have := putAll hcur
      simpa using this
    · rw [← q2, ← hl1]
      exact feet_perm (hperm.map _)
/-- The order of right rows is one. -/
theorem weak_unique : ∀ {a b : List (List Val)}, ValsOk a → a.Perm b → Weak a → Weak b → a = b
  | [], b, _, hp, _, _ => hp.nil_eq
  | x :: xs, [], _, hp, _, _ => absurd hp.length_eq (by simp)
  | x :: xs, y :: ys, hv, hp, ha, hb => by
    obtain ⟨h1, h2⟩ := List.pairwise_cons.1 ha
    obtain ⟨g1, g2⟩ := List.pairwise_cons.1 hb
    have hvb : ValsOk (y :: ys) := fun r hr => hv r (hp.mem_iff.2 hr)
    have le1 : ¬ cmpRow y x < 0 := by
      rcases List.mem_cons.1 (hp.mem_iff.2 (List.mem_cons_self (a := y) (l := ys))) with e | e
      · rw [e, cmpRow_self]; omega
      · exact h1 y e
    have le2 : ¬ cmpRow x y < 0 := by
      rcases List.mem_cons.1 (hp.mem_iff.1 (List.mem_cons_self (a := x) (l := xs))) with e | e
      · rw [e, cmpRow_self]; omega
      · exact g1 x e
    have e : x = y := cmpRow_eq (hv x List.mem_cons_self) (hvb y List.mem_cons_self) (by rw [cmpRow_neg] at le1; omega)
    subst e
    rw [weak_unique (fun r hr => hv r (List.mem_cons_of_mem _ hr)) (List.Perm.cons_inv hp) h2 g2]
open Classical in
/-- Rows in order. -/
noncomputable def ordRows (rows : List (List Val)) : List (List Val) := if h : ∃ ys : List (List Val), ys.Perm rows ∧ Weak ys then h.choose else rows
theorem ordRows_eq {rows ys : List (List Val)} (hv : ValsOk rows) (hp : ys.Perm rows) (hw : Weak ys) : ys = ordRows rows := by
  have h : ∃ ys : List (List Val), ys.Perm rows ∧ Weak ys := ⟨ys, hp, hw⟩
  have h2 := h.choose_spec
  unfold ordRows
  rw [dif_pos h]
  exact weak_unique (fun r hr => hv r (hp.mem_iff.1 hr)) (hp.trans h2.1.symm) hw h2.2
theorem sortRow_c (rows : List (List Val)) (hv : ValsOk rows) (hl : rows.length ≤ 1048576) (d : Bool) :
    AC Tryz.prog 81 [.one (.own 0), .one (.clo 82 [])] [(0, some (.arr 72 rowE rows d))] (.tup []) [(0, some (.arr 72 rowE (ordRows rows) d))] :=
  AC.inplace ⟨_, _, Tryz.func81, rfl, rfl⟩ fun w v vs cells bs g ha hown hF h1 hb => by
    match vs, ha with
    | [u], ha =>
      obtain rfl : u = .func (.func 82) #[] #[] := ha.1 (fun k hk => by cases hk)
      refine (sortRow_any w v rows cells bs hown hF hv hb hl).mono ?_
      rintro en w' ⟨rfl, ys, cells', bs', p1, p2, p3, p4, p5, p6⟩
      rw [ordRows_eq hv p1 p2] at p3 p5
      exact ⟨rfl, cells', bs', p3, p4, p5, p6⟩
end Go.Proofs.YtibhoanjglfaoaaGreat

/- What the sort and the compaction of rows make: the rows in order, each once. -/
namespace Go.Proofs.YtibhoanjglfaoaaGreat
open Go.RowKit
set_option linter.unusedVariables false

theorem nlt_trans {a b c : List Val} (ha : ∀ v ∈ a, valOk v = true) (hb : ∀ v ∈ b, valOk v = true) (hc : ∀ v ∈ c, valOk v = true) (h1 : ¬ cmpRow a b < 0) (h2 : ¬ cmpRow b c < 0) : ¬ cmpRow a c < 0 := fun h3 => by
  by_cases h : cmpRow a b = 0
  · rw [cmpRow_eq ha hb h] at h3; exact h2 h3
  · have hyx : cmpRow b a < 0 := by rw [cmpRow_neg]; omega
    exact h2 (cmpRow_trans hb ha hc hyx h3)
theorem weak_ins (x : List Val) (hx : ∀ v ∈ x, valOk v = true) : ∀ {ys : List (List Val)}, ValsOk ys → Weak ys → ∃ zs : List (List Val), zs.Perm (x :: ys) ∧ Weak zs
  | [], _, _ => ⟨[x], List.Perm.refl _, List.pairwise_singleton _ _⟩
  | y :: t, hv, hw => by
    obtain ⟨h1, h2⟩ := List.pairwise_cons.1 hw
    have hy := hv y List.mem_cons_self
    have ht : ValsOk t := fun r hr => hv r (List.mem_cons_of_mem _ hr)
    by_cases h : cmpRow y x < 0
    · obtain ⟨zs, p, w⟩ := weak_ins x hx ht h2
      refine ⟨y :: zs, (p.cons y).trans (List.Perm.swap x y t), List.pairwise_cons.2 ⟨fun b hb => ?_, w⟩⟩
      rcases List.mem_cons.1 (p.mem_iff.1 hb) with e | e
      · rw [e]; exact cmpRow_asym _ _ h
      · exact h1 b e
    · refine ⟨x :: y :: t, List.Perm.refl _, List.pairwise_cons.2 ⟨fun b hb => ?_, hw⟩⟩
      rcases List.mem_cons.1 hb with e | e
      · rw [e]; exact h
      · exact nlt_trans (ht b e) hy hx (h1 b e) h
theorem weak_exists : ∀ {rows : List (List Val)}, ValsOk rows → ∃ ys : List (List Val), ys.Perm rows ∧ Weak ys
  | [], _ => ⟨[], List.Perm.refl _, List.Pairwise.nil⟩
  | x :: t, hv => by
    obtain ⟨ys, p, w⟩ := weak_exists (rows := t) fun r hr => hv r (List.mem_cons_of_mem _ hr)
    obtain ⟨zs, p2, w2⟩ := weak_ins x (hv x List.mem_cons_self) (ys := ys) (fun r hr => hv r (List.mem_cons_of_mem _ (p.mem_iff.1 hr))) w
    exact ⟨zs, p2.trans (p.cons x), w2⟩
theorem ordRows_perm {rows : List (List Val)} (hv : ValsOk rows) : (ordRows rows).Perm rows := by
  obtain ⟨ys, p, w⟩ := weak_exists hv
  rw [← ordRows_eq hv p w]; exact p
theorem ordRows_weak {rows : List (List Val)} (hv : ValsOk rows) : Weak (ordRows rows) := by
  obtain ⟨ys, p, w⟩ := weak_exists hv
  rw [← ordRows_eq hv p w]; exact w
theorem ordRows_uniq {rows : List (List Val)} (hv : ValsOk rows) : uniq (ordRows rows) = sortRows rows := uniq_sort (ordRows_perm hv) (ordRows_weak hv) hv
theorem ordRows_len {rows : List (List Val)} (hv : ValsOk rows) : (ordRows rows).length = rows.length := (ordRows_perm hv).length_eq
theorem ordRows_small {rows : List (List Val)} (hv : ValsOk rows) {n : Nat} (h : ∀ r ∈ rows, r.length ≤ n) : ∀ r ∈ ordRows rows, r.length ≤ n := fun r hr => h r ((ordRows_perm hv).mem_iff.1 hr)
/-! ### Lists joined -/
theorem flat_zero {α : Type} {xss : List (List α)} : ([] : List α) = (xss.take 0).flatten := rfl
theorem flat_more {α : Type} {xss : List (List α)} {k : Nat} (hk : k < xss.length) : (xss.take k).flatten ++ xss[k] = (xss.take (k + 1)).flatten := by
  rw [List.take_succ_eq_append_getElem hk, List.flatten_append]; simp
theorem flat_all {α : Type} {xss : List (List α)} {k : Nat} (hk : xss.length ≤ k) : (xss.take k).flatten = xss.flatten := by rw [List.take_of_length_le hk]
theorem flat_len1 {α : Type} {xss : List (List α)} {k : Nat} (hk : k < xss.length) : ((xss.take (k + 1)).flatten.length : Int) = (xss.take k).flatten.length + xss[k].length := by
  rw [← flat_more hk, List.length_append]; omega
theorem flat_le {α : Type} {xss : List (List α)} {k : Nat} : (xss.take k).flatten.length ≤ xss.flatten.length := by
  conv => rhs; rw [← List.take_append_drop k xss, List.flatten_append, List.length_append]
  omega
end Go.Proofs.YtibhoanjglfaoaaGreat

/- The kit's contract of slices.Grow laid at rows and at values. -/
namespace Go.Proofs
open Go.Shelf
def Tryz.growRow_ren : Go.Shelf.Ren := ⟨fun | 4 => 85 | n => n, fun | 22 => 61 | 25 => 72 | 3 => 3 | 4 => 4 | 9 => 9 | 20 => 20 | 0 => 0 | n => n, fun | n => n⟩
theorem Tryz.growRow : Go.Proofs.Lays8.n4 Tryz.prog Tryz.growRow_ren := {
  mixed := by kernel_rfl
  f4 := ⟨Tryz.f85.name, by decide, Tryz.func85.trans (congrArg some (by kernel_rfl))⟩
  t0 := Tryz.underlying0
  a0 := Tryz.isAgg0
  z0 := Tryz.sizeOf0
  v0 := Tryz.zeroValue0
  t3 := Tryz.underlying3
  a3 := Tryz.isAgg3
  z3 := Tryz.sizeOf3
  v3 := Tryz.zeroValue3
  t4 := Tryz.underlying4
  a4 := Tryz.isAgg4
  z4 := Tryz.sizeOf4
  v4 := Tryz.zeroValue4
  t9 := Tryz.underlying9
  a9 := Tryz.isAgg9
  z9 := Tryz.sizeOf9
  v9 := Tryz.zeroValue9
  t20 := Tryz.underlying20
  a20 := Tryz.isAgg20
  z20 := Tryz.sizeOf20
  v20 := Tryz.zeroValue20
  t22 := Tryz.underlying61
  a22 := Tryz.isAgg61
  z22 := Tryz.sizeOf61
  v22 := Tryz.zeroValue61 }
end Go.Proofs

/- slices.Grow of no slice: an array of one's own with no elements. -/
namespace Go.Proofs.YtibhoanjglfaoaaGreat
open Go.RowKit
set_option linter.unusedVariables false

/-- A function that makes an array with no elements. -/
theorem AC.room {P : Program} {f : FuncId} {args : List AVal} {α : Type} {E : TypeId} (e : Enc α) {fc : α → List Cell} [hc : CellsOf e fc] (hfn : Callable P f)
    (h : ∀ (w : World) (g : Gh) (cargs : Array Value), All2 (VR1 g [] w) cargs.toList args → Calls P f cargs w fun en w' => ∃ v', en = .returned v' ∧ w'.ownsRow 0 E e.size v' 0 [] ∧ w.grownBy w' none ∧ ∀ b, v'.ownBlock = some b → w.heap.size ≤ b) :
    AC P f args [] (.one (.own 0)) [(0, some (.arr (α := α) E e [] true))] := by
  refine ⟨hfn, fun g w cargs m ha => (h w g cargs ha).mono ?_⟩
  rintro en w' ⟨v', rfl, t1, t2, t3⟩
  obtain ⟨g', q1, q2, q3, q4, q5, q6, q7⟩ := arr_new (w' := w') m (k := 0) rfl (by simp [Locs.ids]) (js := []) (fz := []) (fun _ h => h) (fun j hj => by cases hj) (T := E) (e := e) (xs := []) (d := true) (blk := (v'.ownBlock).getD 0) (v := v') (fp := [])
    t2.os t2.tape t2.output t2.size (fun b hb _ => t2.block b hb (by simp))
    (ArrR.lay (cells := []) t1 (by rfl) (fun b hb => by cases hb) (fun b hb => ⟨by rw [hb]; rfl, fun hI => by
      rcases hI with hI | ⟨j, hj, _⟩
      · have h1 := m.ilt b hI
        have h2 := t3 b hb
        omega
      · cases hj⟩))
    (fun hv => by
      rcases t1.2 with ⟨h1, _⟩ | ⟨b, cap, cur, h1, _, h3, _⟩
      · exact absurd h1 hv
      · have hb : v'.ownBlock = some b := by rw [h1]; rfl
        rw [hb]
        exact ⟨(Array.getElem?_eq_some_iff.1 h3).1, .inl (t3 b hb)⟩)
    (fun _ => ⟨List.nodup_nil, fun b hb => by cases hb⟩)
  exact ⟨v', g', rfl, q3, fun β U e2 ys2 dd hcx => q2.symm, q4 _⟩
theorem growRow_c0 (n : Nat) (hn : n ≤ 2097152) : AC Tryz.prog 85 [.one (.c (.slice none 0 0)), .one (.c (.int .i64 (n : Int)))] [] (.one (.own 0)) [(0, some (.arr 72 rowE [] true))] :=
  AC.room rowE ⟨_, _, Tryz.func85, rfl, rfl⟩ fun w g cargs h => by
    obtain ⟨x, y, rfl, h1, h2⟩ := inv2 h
    rw [(inv_c h1).1, (inv_c h2).1]
    rcases Nat.eq_zero_or_pos n with h0 | h0
    · subst h0
      refine (Any8.slices_Grow_room Tryz.growRow none 0 0 0 w (Nat.le_refl _) (by omega) (by omega) (Nat.le_refl _)).mono ?_
      rintro en w' ⟨rfl, rfl⟩
      exact ⟨_, rfl, ⟨by simp, .inl ⟨rfl, rfl⟩⟩, ⟨rfl, rfl, rfl, Nat.le_refl _, fun _ _ _ => rfl⟩, fun b hb => by cases hb⟩
    · obtain ⟨hu, hn0, ti, z, hti, hz, hzs, htis, htib⟩ := arrT_spec (P := Tryz.prog) (T := 61) (E := 72) (n := 1) (b := 24) (by kernel_rfl)
      refine (Any8.slices_Grow_grow Tryz.growRow ti z hti hz (by omega) none 0 0 n [] w (Nat.le_refl _) (by omega) (by rw [htib]; omega) (by omega) (by simp) (fun _ => rfl) (fun a ha => by cases ha)).mono ?_
      rintro en w' ⟨rfl, rfl⟩
      have hG := grownCap_ge w (0 + n) 0 72
      have hM := grownCap_le_maxLen w (0 + n) 0 72 (by unfold maxLen; omega)
      refine ⟨_, rfl, ⟨by simp, .inr ⟨w.heap.size, _, _, rfl, Nat.zero_le _, heap_alloc_new w.drew _, Nat.zero_le _, hM, ?_, by simp⟩⟩, ⟨rfl, rfl, rfl, by simp, fun k hk _ => Below.heap_alloc w.drew _ k hk⟩, fun b hb => by
        have : w.heap.size = b := by simpa [Value.ownBlock] using hb
        omega⟩
      show (_ : Array Value).size = _ * 1
      simp only [Array.size_append, size_zeroCells, List.size_toArray, List.length_nil, hzs]
      show 0 + (0 + n - 0) * 1 + (grownCap w (0 + n) 0 72 - (0 + n)) * 1 = grownCap w (0 + n) 0 72 * 1
      omega
theorem growRow_c (n : Nat) (hn : n ≤ 2097152) (k : Nat) : AC Tryz.prog 85 [.one (.c (.slice none 0 0)), .one (.c (.int .i64 (n : Int)))] [] (.one (.own k)) [(k, some (.arr 72 rowE [] true))] := AC.at (growRow_c0 n hn) k
end Go.Proofs.YtibhoanjglfaoaaGreat

/- The front of an own array kept; the rest of one cleared. -/
namespace Go.Proofs.YtibhoanjglfaoaaGreat
open Go.RowKit
set_option linter.unusedVariables false

theorem zeroCells_list (c : Array Value) (h0 : 0 < c.size) : ∀ n, (Builtin.zeroCells c n).toList = (List.replicate n c.toList).flatten := fun n => by
  apply List.ext_getElem?
  intro i
  have hl : (Builtin.zeroCells c n).toList.length = n * c.size := by rw [Array.length_toList, size_zeroCells]
  have key : ∀ (n i : Nat), i < n * c.size → ((List.replicate n c.toList).flatten)[i]? = c.toList[i % c.size]? := fun n => by
    induction n with
    | zero => intro i hi; omega
    | succ n ih =>
      intro i hi
      rw [List.replicate_succ, List.flatten_cons]
      rcases Nat.lt_or_ge i c.size with h | h
      · rw [List.getElem?_append_left (by simpa using h), Nat.mod_eq_of_lt h]
      · rw [List.getElem?_append_right (by simpa using h), Array.length_toList, ih (i - c.size) (by rw [Nat.add_mul] at hi; omega), Nat.mod_eq_sub_mod h]
  have hl2 : ((List.replicate n c.toList).flatten).length = n * c.size := by simp
  by_cases hi : i < n * c.size
  · rw [key n i hi]
    have hm : i % c.size < c.size := Nat.mod_lt _ h0
    simp only [Builtin.zeroCells, Array.toList_map, Array.toList_range, List.getElem?_map, List.getElem?_range hi, Option.map_some]
    rw [getElem!_pos c _ hm]
    simp [hm]
  · rw [List.getElem?_eq_none (by omega), List.getElem?_eq_none (by omega)]
theorem run_clear_zero {P : Program} (w : World) (t e ty : TypeId) (z : Value) (k : Nat) (ht : P.underlying t = some (.slice e)) (hv : ∀ w : World, (Go.zeroValue e).run P w = .ok z w) (hzk : z.cells.size = k) (hk0 : 0 < k) (h1 : ∀ u ∈ z.cells.toList, u.oneCell' = true) (g o n c : Nat) (hn : 0 < n) (cur : Array Value) (t0 : TypeId)
    (hg : w.heap[g]? = some (.cells cur t0 (0, 0))) (hfit : o + n * k ≤ cur.size) :
    (Builtin.clear_ #[t] ty #[.slice (some ⟨g, o, none⟩) n c]).run P w = .ok (.tuple #[]) (w.setRow g (cur.toList.take o ++ (List.replicate n z.cells.toList).flatten ++ cur.toList.drop (o + n * k)).toArray) := by
  have hzl : (Builtin.zeroCells z.cells n).toList.length = n * k := by rw [Array.length_toList, size_zeroCells, hzk]
  have hzz := zeroCells_list z.cells (by omega) n
  have hz1 : ∀ v ∈ (Builtin.zeroCells z.cells n).toList, v.oneCell' = true := fun v hm => by
    rw [hzz] at hm
    obtain ⟨l, hl, hvl⟩ := List.mem_flatten.1 hm
    rw [List.eq_of_mem_replicate hl] at hvl
    exact h1 v hvl
  have hst := run_storeCells_at P g o t0 (Builtin.zeroCells z.cells n).toList 0 cur w hg (by rw [hzl]; simpa using hfit) hz1
  simp only [Nat.add_zero, hzl] at hst
  obtain ⟨m, rfl⟩ : ∃ m, n = m + 1 := ⟨n - 1, by omega⟩
  rw [← hzz]
  simp [Builtin.clear_, run_underlying ht, hv, hst]
theorem FR.zeros {α : Type} {e : Enc α} {f : α → List Cell} [hc : CellsOf e f] {w : World} {zs : List Value} {x' : α} (h : e.rep w zs x' []) : ∀ n, FR w (List.replicate n zs).flatten ((List.replicate n x').flatMap f) []
  | 0 => rfl
  | n + 1 => by
    rw [List.replicate_succ, List.flatten_cons, List.replicate_succ, List.flatMap_cons]
    exact FR.app.2 ⟨zs, _, [], [], rfl, rfl, hc.iff.1 h, FR.zeros h n⟩
section ops
variable {P : Program} {N : Nat} {s : St} {d : Nat} {ty : TypeId} {pos : String} {after : Array Edge} {gd : Option (Nat × Bool)}
/-- s[:h] of an own array, under a new number. -/
theorem x_cut {α : Type} {e : Enc α} {f : α → List Cell} [hc : CellsOf e f] {xs : List α} {T E n h K : Nat} {x : Operand} {hi : Option Operand} {rh : List (Nat × AVal)} (k' : Nat) (hN : Nat.blt d N = true) (hx : evo s.t x = some (.one (.own K))) (hl : lkl s.l K = some (.arr E e xs false)) (hT : sliceT P T = some (E, n)) (hz : e.size = n)
    (hh : OB s.t xs.length hi rh h) (hk : lk s.l k' = none) (hi' : noId k' s.ids = true) (h2 : h ≤ xs.length) :
    Stp P N ⟨some d, .slice T x none hi none, ty, pos, after, gd⟩ s ⟨(d, .one (.own k')) :: s.t, (k', some (.arr E e (xs.take h) false)) :: (gones [K] ++ s.l)⟩ ⟨rdo x (.one (.own K)) ++ rh, [(K, .arr E e xs false)], [(d, .one (.own k'))], (k', some (.arr E e (xs.take h) false)) :: gones [K], [k']⟩ := by
  refine ⟨fun K' g s' a w hp r => ?_, ⟨fun p hp => (List.mem_append.1 hp).elim (rdo_of hx p) (hh.rd p), by simp [hl], fun j hj => by simp at hj; subst hj; exact ⟨hk, noId_of hi'⟩⟩, by simp [Cert.upd]⟩
  obtain ⟨p1, p2, p3⟩ := hp
  have hK : lkl s'.l K = some (.arr E e xs false) := p2 (K, .arr E e xs false) (by simp)
  have e1 : a.eval x = g.hd K := (eval_ok r (evs_of hx) fun p hp => p1 p (List.mem_append_left _ hp) : CellR g s'.l w _ (.own K)) _ _ _ _ _ hK
  have q2 := hh.ev r fun p hp => p1 p (List.mem_append_right _ hp)
  obtain ⟨n1, n2⟩ := p3 k' (by simp)
  obtain ⟨cells, b1, r1, f1, i1, F1, ob1⟩ := (r.mem.arr K _ _ _ _ _ hK).row
  obtain ⟨c1, c3, rfl, f2, _⟩ := FR.parts (e := e) f1 h2
  have hgone : ∀ i ∈ [K], ∃ (α : Type) (T : TypeId) (e : Enc α) (xs : List α) (d : Bool), lkl s'.l i = some (.arr T e xs d) := fun i hi => by
    simp at hi
    subst hi
    exact ⟨α, E, e, xs, false, hK⟩
  have hlen : (xs.take h).length = h := by simp; omega
  have hcl : (cells.take (h * e.size)).length = h * e.size := by rw [List.length_take, r1.1, Nat.min_eq_left (Nat.mul_le_mul_right _ h2)]
  have : ∃ v', (execOp a.eval ⟨some d, .slice T x none hi none, ty, pos, after, gd⟩).run P w = .ok (.value v') w ∧ w.ownsRow 0 E e.size v' (h + 0) (cells.take (h * e.size) ++ []) ∧ ∀ b, v'.ownBlock = some b → (g.hd K).ownBlock = some b := by
    rcases r1.2 with ⟨hnil, h0⟩ | ⟨b, cap, cur, hv, _, hb, hle, hcap, hsz, htk⟩
    · have : h = 0 := by omega
      subst this
      have hrun := run_sliceOf hT w none 0 0 (lo := none) (.inl ⟨rfl, rfl⟩) (by rw [h0] at q2; exact q2) (Nat.le_refl 0) (Nat.le_refl 0)
      exact ⟨.slice none 0 0, by simp only [execOp, e1, hnil, Sem.run_bind, Option.map_none, hrun, Result.andThen_ok, Sem.run_pure]; rfl, ⟨by simp, .inl ⟨rfl, rfl⟩⟩, fun b hb => by cases hb⟩
    · have hrun := run_sliceOf hT w (some ⟨b, 0, none⟩) xs.length cap (lo := none) (.inl ⟨rfl, rfl⟩) q2 (Nat.zero_le h) (by omega)
      have ea : (if cap = 0 then (some ⟨b, 0, none⟩ : Option Addr) else (some ⟨b, 0, none⟩ : Option Addr).map (·.add (0 * n))) = some ⟨b, 0, none⟩ := by
        split
        · rfl
        · simp [addr_add]
      rw [ea] at hrun
      refine ⟨_, by simp only [execOp, e1, hv, Sem.run_bind, Option.map_none, hrun, Result.andThen_ok, Sem.run_pure]; rfl, ⟨by simp [hcl], .inr ⟨b, cap, cur, by simp, Nat.zero_le _, hb, by omega, hcap, hsz, ?_⟩⟩, fun b' hb' => by rw [hv]; exact hb'⟩
      rw [List.append_nil, Nat.add_zero, ← htk, List.take_take, Nat.min_eq_left (Nat.mul_le_mul_right _ h2)]
  obtain ⟨v', hrun, hrow, hown⟩ := this
  obtain ⟨g', s1, s2, s3, s4, s5, s6⟩ := app_lay (w' := w) r.mem n1 (fun h => n2 (List.mem_append_right _ h)) (js := [K]) (List.mem_cons_self ..) hgone (E := E) (e := e) (xs := xs.take h) (ys := []) (d := false) (news := []) (b2 := []) f2 (by rfl)
    (fun b hb => i1 b (by simp at hb; simp [hb])) ob1 (by rw [hlen]; exact hrow) ⟨rfl, rfl, rfl, Nat.le_refl _, fun _ _ _ => rfl⟩ (fun b hb => .inl (hown b hb)) (fun hd => by cases hd)
  rw [List.append_nil] at s2 s3 s6
  unfold Oper.wp
  rw [hrun, Oper.upon_value]
  refine ⟨g', r.next (blt_lt hN) s4 s5 (Nat.le_refl _) (fun j hj => s6 j fun e => n2 (e ▸ hj)) (fun β U e2 ys dd hc => ?_) s2, s3 K'⟩
  exact s1.symm
/-- clear(s[l0:]) of an own array. -/
theorem x_clear {α : Type} {e : Enc α} {f : α → List Cell} [hc : CellsOf e f] {xs : List α} {T E n K l0 n0 : Nat} {x : Operand} {z : Value} (x' : α) (h : evo s.t x = some (.one (.osl K l0 n0))) (hl : lkl s.l K = some (.arr E e xs false)) (hT : sliceT P T = some (E, n)) (hz : e.size = n) (h0 : 0 < n)
    (hv : ∀ w : World, (Go.zeroValue E).run P w = .ok z w) (hx' : ∀ w, e.rep w z.cells.toList x' []) (hn0 : 0 < n0) (hb : l0 + n0 = xs.length) :
    Stp P N ⟨none, .call { callee := .builtin .clear, args := #[x], argTypes := #[T] }, ty, pos, after, gd⟩ s ⟨s.t, (K, some (.arr E e (xs.take l0 ++ List.replicate n0 x') false)) :: s.l⟩ ⟨rdo x (.one (.osl K l0 n0)), [(K, .arr E e xs false)], [], [(K, some (.arr E e (xs.take l0 ++ List.replicate n0 x') false))], []⟩ := by
  refine ⟨fun K' g s' a w hp r => ?_, ⟨rdo_of h, by simp [hl], by simp⟩, by simp [Cert.upd]⟩
  obtain ⟨p1, p2, _⟩ := hp
  have hK : lkl s'.l K = some (.arr E e xs false) := p2 (K, .arr E e xs false) (by simp)
  obtain ⟨hu, ii, hii, hnn⟩ := sliceT_spec hT
  rcases (eval_ok r (evs_of h) fun p hp => p1 p hp : CellR g s'.l w _ (.osl K l0 n0)) _ _ _ _ _ hK with ⟨f1, f2, f3, f4⟩ | ⟨len, cap, off, f1, f2, f3, f4, f5⟩
  · omega
  have hlv : g.hd K ≠ .slice none 0 0 := by rw [f1]; intro e; cases e
  obtain ⟨cells, b1, r1, g1, i1, F1, ob1⟩ := (r.mem.arr K _ _ _ _ _ hK).row
  obtain ⟨c1, c3, rfl, g2, _⟩ := FR.parts (e := e) g1 (i := l0) (by omega)
  rcases r1.2 with ⟨hnil, hl0⟩ | ⟨b, cap', cur, hv', _, hbk, hle, hcap, hsz, htk⟩
  · omega
  rw [f1] at hv'
  cases hv'
  have hlt : l0 < cap := by omega
  have hoff := f5 hlt
  subst hoff
  subst hz
  have hzl : z.cells.toList.length = e.size := e.len (hx' w)
  have hzs : z.cells.size = e.size := by rw [← Array.length_toList]; exact hzl
  have hz1 : ∀ u ∈ z.cells.toList, u.oneCell' = true := FR.one (hc.iff.1 (hx' w))
  have hsum : l0 * e.size + n0 * e.size = xs.length * e.size := by rw [← Nat.add_mul, hb]
  have hfit : l0 * e.size + n0 * e.size ≤ cur.size := by
    rw [hsum, hsz]; exact Nat.mul_le_mul_right _ hle
  have hrun := run_clear_zero (P := P) w T E ty z e.size hu hv hzs h0 hz1 (g.ρ K) (l0 * e.size) n0 (cap - l0) hn0 cur E hbk hfit
  generalize hnew : (cur.toList.take (l0 * e.size) ++ (List.replicate n0 z.cells.toList).flatten ++ cur.toList.drop (l0 * e.size + n0 * e.size)).toArray = new at *
  have hfl : ((List.replicate n0 z.cells.toList).flatten).length = n0 * e.size := by simp [hzs]
  have hns : new.size = cur.size := by rw [← hnew]; simp [hzs]; omega
  have hwk : (w.setRow (g.ρ K) new).heap[g.ρ K]? = some (.cells new E (0, 0)) := setRow_heap w _ _ _ E _ hbk
  have hwo : ∀ b, b ≠ g.ρ K → (w.setRow (g.ρ K) new).heap[b]? = w.heap[b]? := fun b hb => setRow_other w _ b _ hb
  have hsw : (w.setRow (g.ρ K) new).heap.size = w.heap.size := by simp
  have hnI := r.mem.notI hK hlv
  have hne : ∀ b, g.I b → b ≠ g.ρ K := fun b hb eq => hnI (eq ▸ hb)
  have hF2 : FR w (cells.take (l0 * e.size) ++ (List.replicate n0 z.cells.toList).flatten) ((xs.take l0 ++ List.replicate n0 x').flatMap f) (c1 ++ []) := by
    rw [List.flatMap_append]
    exact FR.app.2 ⟨_, _, _, _, rfl, rfl, g2, FR.zeros (hx' w) n0⟩
  rw [List.append_nil] at hF2
  have hIc : ∀ b ∈ c1, g.I b := fun b hb => i1 b (List.mem_append_left _ hb)
  have hF3 := hF2.keep (w' := w.setRow (g.ρ K) new) (fun b hb => hwo b (hne b (hIc b hb))) (Nat.le_of_eq hsw.symm)
  have hln : (xs.take l0 ++ List.replicate n0 x').length = xs.length := by simp; omega
  obtain ⟨g', q1, q2, q3, q4, q5, q6, q7⟩ := arr_put (w' := w.setRow (g.ρ K) new) r.mem hK hlv (js := []) (by simp) (fun j hj => by cases hj) (xs := xs.take l0 ++ List.replicate n0 x') (d := false) (fp := c1) rfl rfl rfl hsw hwo
    (ArrR.ofRow (g := ⟨fun b => g.I b ∨ liveA g [] b, g.ρ, g.hd, setAt g.F K c1⟩) (e := e) (f := f) (cells := cells.take (l0 * e.size) ++ (List.replicate n0 z.cells.toList).flatten) (bs := c1) (by
      rw [hln]
      refine ⟨?_, .inr ⟨g.ρ K, cap, new, f1, Nat.zero_le _, hwk, hle, hcap, by rw [hns, hsz], ?_⟩⟩
      · rw [List.length_append, hfl, List.length_take, r1.1, Nat.min_eq_left (by omega)]; exact hsum
      · rw [← hnew]
        show (List.take _ (_ ++ _ ++ _)) = _
        rw [List.take_left' (by rw [List.length_append, hfl, List.length_take, Array.length_toList, Nat.min_eq_left (by omega)]; exact hsum), ← htk, List.take_take, Nat.min_eq_left (by omega)]) hF3 (fun b hb => .inl (hIc b hb)) (fun hd => by cases hd) fun b hb => ⟨ob1 b hb, fun hI => by
        rcases hI with hI | ⟨j, hj, _⟩
        · rw [ob1 b hb] at hI; exact hnI hI
        · cases hj⟩) (fun hd => by cases hd)
  have hr : (execOp a.eval ⟨none, .call { callee := .builtin .clear, args := #[x], argTypes := #[T] }, ty, pos, after, gd⟩).run P w = .ok (.value (.tuple #[])) (w.setRow (g.ρ K) new) := by
    simp only [execOp, resolve, invoke, builtin, Sem.run_bind, Sem.run_pure, Result.andThen_ok, List.map_toArray, List.map_cons, List.map_nil, f2, hrun]
  unfold Oper.wp
  rw [hr, Oper.upon_value]
  exact ⟨g', r.next0 q5 q6 (Nat.le_of_eq hsw.symm) (fun j _ => q7 j) q3, q4 K'⟩
end ops
end Go.Proofs.YtibhoanjglfaoaaGreat

/- Equal neighbours once: on raw rows. -/
namespace Go.Proofs.YtibhoanjglfaoaaGreat
open Go.RowKit
set_option linter.unusedVariables false
set_option linter.unusedSimpArgs false

section
variable {us : List (Raw (List Val))}
def uniqR (us : List (Raw (List Val))) : Nat → List (Raw (List Val))
  | 0 => []
  | 1 => us.take 1
  | k + 2 => if (us.map Raw.x).getD (k + 1) [] = (us.map Raw.x).getD k [] then uniqR us (k + 1) else uniqR us (k + 1) ++ (us.drop (k + 1)).take 1
theorem uniqR_len : ∀ {k : Nat}, (uniqR us k).length ≤ k
  | 0 => by simp [uniqR]
  | 1 => by simp [uniqR]; omega
  | k + 2 => by
    have := uniqR_len (k := k + 1)
    rw [uniqR]; split
    · omega
    · simp; omega
theorem uniqR_map : ∀ {k : Nat}, k ≤ us.length → (uniqR us k).map Raw.x = uniqTo (us.map Raw.x) k
  | 0, _ => rfl
  | 1, _ => by simp [uniqR, uniqTo]
  | k + 2, h => by
    rw [uniqR, uniqTo]
    split
    · exact uniqR_map (by omega)
    · rw [List.map_append, uniqR_map (by omega), List.map_take, List.map_drop]
      congr 1
      rw [List.drop_eq_getElem_cons (by simp; omega)]
      simp [List.getD, show k + 1 < us.length by omega]
theorem uniqR_sub : ∀ {k : Nat}, (uniqR us k).Sublist (us.take k)
  | 0 => by simp [uniqR]
  | 1 => by simp [uniqR]
  | k + 2 => by
    have h0 := uniqR_sub (k := k + 1)
    have e : us.take (k + 2) = us.take (k + 1) ++ (us.drop (k + 1)).take 1 := by rw [List.take_add (i := k + 1) (j := 1)]
    rw [uniqR, e]; split
    · exact h0.trans (List.sublist_append_left _ _)
    · exact h0.append (List.Sublist.refl _)
theorem uniqR_same {k : Nat} (h1 : 0 < k) (hk : k < us.length) (h : us[k].x = (us[k - 1]'(by omega)).x) : uniqR us (k + 1) = uniqR us k := by
  obtain ⟨j, rfl⟩ : ∃ j, k = j + 1 := ⟨k - 1, by omega⟩
  simp only [Nat.add_sub_cancel] at h
  rw [uniqR, if_pos (by simp [List.getD, hk, show j < us.length by omega, h])]
theorem uniqR_new {k : Nat} (h1 : 0 < k) (hk : k < us.length) (h : ¬ us[k].x = (us[k - 1]'(by omega)).x) : uniqR us (k + 1) = uniqR us k ++ [us[k]] := by
  obtain ⟨j, rfl⟩ : ∃ j, k = j + 1 := ⟨k - 1, by omega⟩
  simp only [Nat.add_sub_cancel] at h
  rw [uniqR, if_neg (by simp [List.getD, hk, show j < us.length by omega, h]), List.drop_eq_getElem_cons hk]; rfl
/-- No equal neighbours so far. -/
def Plain (us : List (Raw (List Val))) (k : Nat) : Prop := uniqR us k = us.take k
theorem Plain.one : Plain us 1 := rfl
theorem Plain.succ {k : Nat} (h : Plain us k) (h1 : 0 < k) (hk : k < us.length) (hn : sameRow us[k].x (us[k - 1]'(by omega)).x = false) : Plain us (k + 1) := by
  unfold Plain
  rw [uniqR_new h1 hk (sameRow_ne hn), h, List.take_succ_eq_append_getElem hk]
theorem Plain.all {k : Nat} (h : Plain us k) (hk : us.length ≤ k) (hk2 : k ≤ us.length) : us = uniqR us us.length := by
  obtain rfl : k = us.length := by omega
  rw [h, List.take_length]
theorem uniqR_short (h : us.length < 2) : us = uniqR us us.length := by
  match us, h with
  | [], _ => rfl
  | [a], _ => rfl
/-- Halfway: the elements kept so far, and the old ones behind. -/
def uniqA (us : List (Raw (List Val))) (j : Nat) : List (Raw (List Val)) := uniqR us j ++ us.drop (uniqR us j).length
theorem uniqA_len {j : Nat} (hj : j ≤ us.length) : (uniqA us j).length = us.length := by
  have := uniqR_len (us := us) (k := j)
  simp [uniqA]; omega
theorem uniqA_at {j i : Nat} (hj : j ≤ us.length) (hi : i < us.length) (h : (uniqR us j).length ≤ i) (h' : i < (uniqA us j).length) : (uniqA us j)[i] = us[i] := by
  have q : (uniqA us j)[i]? = us[i]? := by
    unfold uniqA
    rw [List.getElem?_append_right h, List.getElem?_drop]
    congr 1; omega
  rw [List.getElem?_eq_getElem h', List.getElem?_eq_getElem hi] at q
  exact Option.some.inj q
/-- The first equal neighbours are at k. -/
theorem uniqR_dup {k : Nat} (h : Plain us k) (h1 : 0 < k) (hk : k < us.length) (hs : sameRow us[k].x (us[k - 1]'(by omega)).x = true) : (uniqR us (k + 1)).length = k ∧ us = uniqA us (k + 1) := by
  have e : uniqR us (k + 1) = us.take k := by rw [uniqR_same h1 hk (sameRow_iff.1 hs), h]
  have el : (uniqR us (k + 1)).length = k := by rw [e]; simp; omega
  refine ⟨el, ?_⟩
  unfold uniqA
  rw [el, e, List.take_append_drop]
theorem uniqR_skip {j : Nat} (h1 : 0 < j) (hj : j < us.length) (hs : sameRow us[j].x (us[j - 1]'(by omega)).x = true) : uniqR us (j + 1) = uniqR us j := uniqR_same h1 hj (sameRow_iff.1 hs)
theorem uniqA_put {j : Nat} (h1 : 0 < j) (hj : j < us.length) (hl : (uniqR us j).length < j) (hs : sameRow us[j].x (us[j - 1]'(by omega)).x = false) (h' : j < (uniqA us j).length) : (uniqA us j).set (uniqR us j).length ((uniqA us j)[j]) = uniqA us (j + 1) ∧ (uniqR us (j + 1)).length = (uniqR us j).length + 1 := by
  have e := uniqR_new h1 hj (sameRow_ne hs)
  have e2 := uniqA_at (Nat.le_of_lt hj) hj (by omega) h'
  refine ⟨?_, by rw [e]; simp⟩
  rw [e2]
  unfold uniqA
  rw [e, List.set_append_right _ _ (Nat.le_refl _), Nat.sub_self, List.drop_eq_getElem_cons (l := us) (i := (uniqR us j).length) (by omega), List.set_cons_zero, List.length_append, List.length_singleton, List.append_assoc]
  rfl
theorem uniqA_end {j : Nat} (hj : us.length ≤ j) (hj2 : j ≤ us.length) {z : Raw (List Val)} {n : Nat} : ((uniqA us j).take (uniqR us j).length ++ List.replicate n z).take (uniqR us j).length = uniqR us us.length := by
  obtain rfl : j = us.length := by omega
  unfold uniqA
  rw [List.take_left' rfl, List.take_left' rfl]
end
/-- The raw element whose cell is no slice. -/
def zeroR : Raw (List Val) := ⟨[], [.slice none 0 0], []⟩
theorem zeroR_rep (w : World) : (rawE rowE).rep w [.slice none 0 0] zeroR [] :=
  ⟨[], [], rfl, ⟨⟨rfl, rfl⟩, rowE_rep.2 ⟨none, 0, 0, rfl, rfl, Nat.le_refl _, Nat.zero_le _, fun _ => rfl, .inl ⟨rfl, rfl⟩⟩, rfl⟩, rfl⟩
end Go.Proofs.YtibhoanjglfaoaaGreat

/- Equal neighbours once (printed by walk.py) -/
namespace Go.Proofs.YtibhoanjglfaoaaGreat
open Go.RowKit
set_option linter.unusedVariables false
set_option linter.unusedSimpArgs false
set_option maxRecDepth 100000

set_option maxHeartbeats 4000000 in
theorem compactRaw_c (us : List (Raw (List Val))) (hl : us.length ≤ 1048576) (hm : ∀ r ∈ us, r.x.length ≤ 1048576) : AT Tryz.prog 83 [.one (.own 0), .one (.clo 84 [])] [(0, some (.arr 72 (rawE rowE) (us) false))] (.one (.own 1)) [(1, some (.arr 72 (rawE rowE) (uniqR us us.length) false))] := by
  refine AT_body1 Tryz.func83 rfl rfl Tryz.ntmps83 rfl Tryz.results83 ?_
  refine AW_seq ?_
  refine AW_region ?_
  refine AL_p (x_assign rfl rfl) ?_
  refine AL_nil ?_
  refine AW_seq ?_
  refine AW_seq ?_
  refine AW_region ?_
  refine AL_p (x_move rfl rfl) ?_
  refine AL_p (x_olen (E := 72) (n := 1) rfl rfl rfl (by kernel_rfl)) ?_
  refine AL_b (x_lss rfl rfl rfl) (fun b10 h10 => ?_)
  refine AL_nil ?_
  cases b10
  rotate_left
  · try simp only [tdy] at h10
    refine AW_condT rfl ?_
    refine AW_seq ?_
    refine AW_region ?_
    refine AL_p (x_move rfl rfl) ?_
    refine AL_p (x_assign rfl rfl) ?_
    refine AL_nil ?_
    refine AW_ret ?_
    exact ⟨rn [(1, 0)], ⟨⟨⟨_, rfl, VLe.rf⟩, trivial⟩, ⟨⟨_, rfl, by first | exact BLe.arr (uniqR_short (by omega)) | exact BLe.arr (hp.all (by omega) (by omega)) | exact BLe.arr (uniqA_end (by omega) (by omega))⟩, trivial⟩, trivial, rfl⟩⟩
  try simp only [tdy] at h10
  refine AW_condF rfl ?_
  refine AW_skip ?_
  refine AW_seq ?_
  refine AW_seq ?_
  refine AW_region ?_
  refine AL_p (x_assign rfl rfl) ?_
  refine AL_nil ?_
  refine AW_block ?_
  refine AW_loop2 (ι := {q : Nat // (0 < q ∧ q ≤ us.length) ∧ Plain us q}) (fun p => [(5, .one (.c (.int .i64 ((p.1) : Int))))]) (fun p => []) [0, 1] [0] (fun p => us.length - (p.1)) ⟨1, ⟨by omega, Plain.one⟩⟩ (rn []) ?_ ?_
  exact ⟨by (repeat refine ⟨⟨_, rfl, by first | exact VLe.rf | exact vle_int (by dsimp only; omega)⟩, ?_⟩); exact trivial, by (repeat refine ⟨⟨_, rfl, by first | exact BLe.rf | exact BLe.box AllC.rf | exact BLe.arr (by exact rfl)⟩, ?_⟩); exact trivial, by repeat (first | exact trivial | refine ⟨⟨rfl, by first | (left; intro h; cases h) | (right; rfl), by first | exact (fun _ h => ⟨_, h⟩) | exact (fun _ _ => ⟨_, rfl⟩) | (intro _ h; cases h)⟩, ?_⟩), rfl⟩
  rintro ⟨k, hinv⟩
  dsimp only
  obtain ⟨⟨hk0, hk⟩, hp⟩ := hinv
  refine AW_seq ?_
  refine AW_seq ?_
  refine AW_region ?_
  refine AL_p (x_move rfl rfl) ?_
  refine AL_p (x_move rfl rfl) ?_
  refine AL_p (x_olen (E := 72) (n := 1) rfl rfl rfl (by kernel_rfl)) ?_
  refine AL_b (x_lss rfl rfl rfl) (fun b15 h15 => ?_)
  refine AL_nil ?_
  cases b15
  · try simp only [tdy] at h15
    refine AW_condF rfl ?_
    refine AW_exit (BQ_hit ?_)
    refine AW_seq ?_
    refine AW_region ?_
    refine AL_p (x_move rfl rfl) ?_
    refine AL_p (x_assign rfl rfl) ?_
    refine AL_nil ?_
    refine AW_ret ?_
    exact ⟨rn [(1, 0)], ⟨⟨⟨_, rfl, VLe.rf⟩, trivial⟩, ⟨⟨_, rfl, by first | exact BLe.arr (uniqR_short (by omega)) | exact BLe.arr (hp.all (by omega) (by omega)) | exact BLe.arr (uniqA_end (by omega) (by omega))⟩, trivial⟩, trivial, rfl⟩⟩
  try simp only [tdy] at h15
  refine AW_condT rfl ?_
  refine AW_skip ?_
  refine AW_seq ?_
  refine AW_block ?_
  refine AW_seq ?_
  refine AW_draw rfl ?_
  refine AL_p (x_move rfl rfl) ?_
  refine AL_p (x_move rfl rfl) ?_
  refine AL_p (x_move rfl rfl) ?_
  refine AL_p (x_oindex (n := 1) rfl rfl rfl rfl (by kernel_rfl) rfl (k := k) rfl (by omega)) ?_
  refine AL_p (x_oloadN (n := 1) rfl rfl rfl (by kernel_rfl) (by omega) rfl rfl) ?_
  refine AL_p (x_move rfl rfl) ?_
  refine AL_p (x_move rfl rfl) ?_
  refine AL_p (x_sub rfl rfl rfl (IntWalk.i64_in _ (by omega))) ?_
  refine AL_p (x_oindex (n := 1) rfl rfl rfl rfl (by kernel_rfl) rfl (k := k - 1) (by omega) (by omega)) ?_
  refine AL_p (x_oloadN (n := 1) rfl rfl rfl (by kernel_rfl) (by omega) rfl rfl) ?_
  refine AL_bc (x_call (ks := []) (L := []) (L' := []) rfl rfl rfl (sameRowI_c (us[k]'(by omega)).x (us[k - 1]'(by omega)).x (hm _ (List.getElem_mem _))) rfl ⟨V1Le.agg ⟨CLe.rx rfl, trivial⟩, V1Le.agg ⟨CLe.rx rfl, trivial⟩, trivial⟩ (caught_of rfl) rfl rfl rfl trivial rfl) (fun b28 h28 => ?_)
  refine AL_nild (by kernel_rfl) ?_
  cases b28
  · try simp only [tdy] at h28
    refine AW_condF rfl ?_
    refine AW_skip ?_
    refine AW_region ?_
    refine AL_p (x_move rfl rfl) ?_
    refine AL_p (x_add rfl rfl rfl (IntWalk.i64_in _ (by omega))) ?_
    refine AL_p (x_assign rfl rfl) ?_
    refine AL_nil ?_
    refine ⟨⟨k + 1, ⟨by omega, hp.succ (by omega) (by omega) h28⟩⟩, rn [], ?_, by dsimp only; omega⟩
    exact ⟨by (repeat refine ⟨⟨_, rfl, by first | exact VLe.rf | exact vle_int (by dsimp only; omega)⟩, ?_⟩); exact trivial, by (repeat refine ⟨⟨_, rfl, by first | exact BLe.rf | exact BLe.box AllC.rf | exact BLe.arr (by exact rfl)⟩, ?_⟩); exact trivial, by repeat (first | exact trivial | refine ⟨⟨rfl, by first | (left; intro h; cases h) | (right; rfl), by first | exact (fun _ h => ⟨_, h⟩) | exact (fun _ _ => ⟨_, rfl⟩) | (intro _ h; cases h)⟩, ?_⟩), rfl⟩
  try simp only [tdy] at h28
  obtain ⟨q1, q2⟩ := uniqR_dup hp (by omega) (by omega) h28
  refine AW_condT rfl ?_
  refine AW_seq ?_
  refine AW_region ?_
  refine AL_p (x_move rfl rfl) ?_
  refine AL_p (x_move rfl rfl) ?_
  refine AL_p (x_oslice (n := 1) rfl rfl rfl (by kernel_rfl) rfl (.yes (l := k) rfl (by omega)) .no (by omega) (by first | exact Nat.le_refl _ | omega)) ?_
  refine AL_p (x_assign rfl rfl) ?_
  refine AL_nil ?_
  refine AW_seq ?_
  refine AW_seq ?_
  refine AW_region ?_
  refine AL_p (x_assign rfl rfl) ?_
  refine AL_nil ?_
  refine AW_block ?_
  refine AW_loop2 (ι := {q : Nat // (k < q ∧ q ≤ us.length) ∧ (uniqR us q).length < q}) (fun p => [(5, .one (.c (.int .i64 ((uniqR us (p.1)).length : Int)))), (7, .one (.c (.int .i64 (((p.1) : Int) - (k : Int)))))]) (fun p => [(0, some (.arr 72 (rawE rowE) (uniqA us (p.1)) false))]) [0, 1, 6] [] (fun p => us.length - (p.1)) ⟨k + 1, ⟨by omega, by omega⟩⟩ (rn []) ?_ ?_
  exact ⟨by (repeat refine ⟨⟨_, rfl, by first | exact VLe.rf | exact vle_int (by dsimp only; omega)⟩, ?_⟩); exact trivial, by (repeat refine ⟨⟨_, rfl, by first | exact BLe.rf | exact BLe.box AllC.rf | exact BLe.arr (by first | exact q2 | exact q5.1 | (unfold uniqA; rw [q5]))⟩, ?_⟩); exact trivial, by repeat (first | exact trivial | refine ⟨⟨rfl, by first | (left; intro h; cases h) | (right; rfl), by first | exact (fun _ h => ⟨_, h⟩) | exact (fun _ _ => ⟨_, rfl⟩) | (intro _ h; cases h)⟩, ?_⟩), rfl⟩
  rintro ⟨j, hinv⟩
  dsimp only
  obtain ⟨⟨hkj, hj⟩, hul⟩ := hinv
  have hj : j ≤ us.length := hj
  refine AW_seq ?_
  refine AW_seq ?_
  refine AW_region ?_
  refine AL_p (x_move rfl rfl) ?_
  refine AL_p (x_move rfl rfl) ?_
  refine AL_p (x_osllen (E := 72) (n := 1) rfl rfl rfl (by kernel_rfl) (by rw [uniqA_len (by omega)]; omega)) ?_
  refine AL_b (x_lss rfl rfl rfl) (fun b35 h35 => ?_)
  refine AL_nil ?_
  cases b35
  · try simp only [tdy] at h35
    refine AW_condF rfl ?_
    refine AW_exit (BQ_hit ?_)
    refine AW_seq ?_
    refine AW_region ?_
    refine AL_p (x_move rfl rfl) ?_
    refine AL_p (x_move rfl rfl) ?_
    refine AL_p (x_oslice (n := 1) rfl rfl rfl (by kernel_rfl) rfl (.yes (l := (uniqR us j).length) rfl rfl) .no (by rw [uniqA_len (by omega)]; omega) (by first | exact Nat.le_refl _ | omega)) ?_
    refine AL_p (x_clear (E := 72) (n := 1) (z := .agg #[.slice none 0 0]) zeroR rfl rfl (by kernel_rfl) rfl (by decide) Tryz.zeroValue72 zeroR_rep (by rw [uniqA_len (by omega)]; omega) (by rw [uniqA_len (by omega)]; omega)) ?_
    refine AL_nil ?_
    refine AW_seq ?_
    refine AW_region ?_
    refine AL_p (x_move rfl rfl) ?_
    refine AL_p (x_move rfl rfl) ?_
    refine AL_p (x_cut (n := 1) (h := (uniqR us j).length) 100 rfl rfl rfl (by kernel_rfl) rfl (.yes rfl rfl) rfl rfl (by simp [uniqA_len hj]; omega)) ?_
    refine AL_p (x_assign rfl rfl) ?_
    refine AL_nil ?_
    refine AW_ret (BQ_ret (BQ_ret ?_))
    exact ⟨rn [(1, 100)], ⟨⟨⟨_, rfl, VLe.rf⟩, trivial⟩, ⟨⟨_, rfl, by first | exact BLe.arr (uniqR_short (by omega)) | exact BLe.arr (hp.all (by omega) (by omega)) | exact BLe.arr (uniqA_end (by omega) (by omega))⟩, trivial⟩, trivial, rfl⟩⟩
  try simp only [tdy] at h35
  refine AW_condT rfl ?_
  refine AW_skip ?_
  refine AW_seq ?_
  refine AW_block ?_
  refine AW_seq ?_
  refine AW_draw rfl ?_
  refine AL_p (x_move rfl rfl) ?_
  refine AL_p (x_move rfl rfl) ?_
  refine AL_p (x_move rfl rfl) ?_
  refine AL_p (x_oslindex (n := 1) rfl rfl rfl rfl (by kernel_rfl) rfl (k := j - k) (by omega) (by omega) (k1 := j) (by omega)) ?_
  refine AL_p (x_oloadN (n := 1) rfl rfl rfl (by kernel_rfl) (by rw [uniqA_len (by omega)]; omega) rfl rfl) ?_
  refine AL_p (x_move rfl rfl) ?_
  refine AL_p (x_move rfl rfl) ?_
  refine AL_p (x_sub rfl rfl rfl (IntWalk.i64_in _ (by omega))) ?_
  refine AL_p (x_oslindex (n := 1) rfl rfl rfl rfl (by kernel_rfl) rfl (k := j - k - 1) (by omega) (by omega) (k1 := j - 1) (by omega)) ?_
  refine AL_p (x_oloadN (n := 1) rfl rfl rfl (by kernel_rfl) (by rw [uniqA_len (by omega)]; omega) rfl rfl) ?_
  refine AL_bc (x_call (ks := []) (L := []) (L' := []) rfl rfl rfl (sameRowI_c (((uniqA us j)[j]'(by rw [uniqA_len (by omega)]; omega))).x (((uniqA us j)[j - 1]'(by rw [uniqA_len (by omega)]; omega))).x (hm _ (by rw [uniqA_at (us := us) (j := j) (i := j) (by omega) (by omega) (by omega) (by rw [uniqA_len (by omega)]; omega)]; exact List.getElem_mem _))) rfl ⟨V1Le.agg ⟨CLe.rx rfl, trivial⟩, V1Le.agg ⟨CLe.rx rfl, trivial⟩, trivial⟩ (caught_of rfl) rfl rfl rfl trivial rfl) (fun b48 h48 => ?_)
  refine AL_p (x_not rfl rfl) ?_
  refine AL_nild (by kernel_rfl) ?_
  cases b48
  rotate_left
  · try simp only [tdy] at h48
    rw [uniqA_at (us := us) (j := j) (i := j) (by omega) (by omega) (by omega) (by rw [uniqA_len (by omega)]; omega), uniqA_at (us := us) (j := j) (i := j - 1) (by omega) (by omega) (by omega) (by rw [uniqA_len (by omega)]; omega)] at h48
    have q5 := uniqR_skip (by omega) (by omega) h48
    have q6 : (uniqR us (j + 1)).length = (uniqR us j).length := by rw [q5]
    refine AW_condF rfl ?_
    refine AW_skip ?_
    refine AW_region ?_
    refine AL_p (x_move rfl rfl) ?_
    refine AL_p (x_add rfl rfl rfl (IntWalk.i64_in _ (by omega))) ?_
    refine AL_p (x_assign rfl rfl) ?_
    refine AL_nil ?_
    refine ⟨⟨j + 1, ⟨by omega, by rw [q5]; omega⟩⟩, rn [], ?_, by dsimp only; omega⟩
    exact ⟨by (repeat refine ⟨⟨_, rfl, by first | exact VLe.rf | exact vle_int (by dsimp only; omega)⟩, ?_⟩); exact trivial, by (repeat refine ⟨⟨_, rfl, by first | exact BLe.rf | exact BLe.box AllC.rf | exact BLe.arr (by first | exact q2 | exact q5.1 | (unfold uniqA; rw [q5]))⟩, ?_⟩); exact trivial, by repeat (first | exact trivial | refine ⟨⟨rfl, by first | (left; intro h; cases h) | (right; rfl), by first | exact (fun _ h => ⟨_, h⟩) | exact (fun _ _ => ⟨_, rfl⟩) | (intro _ h; cases h)⟩, ?_⟩), rfl⟩
  try simp only [tdy] at h48
  rw [uniqA_at (us := us) (j := j) (i := j) (by omega) (by omega) (by omega) (by rw [uniqA_len (by omega)]; omega), uniqA_at (us := us) (j := j) (i := j - 1) (by omega) (by omega) (by omega) (by rw [uniqA_len (by omega)]; omega)] at h48
  have q5 := uniqA_put (by omega) (by omega) (by omega) h48 (by rw [uniqA_len (by omega)]; omega)
  have q6 := q5.2
  refine AW_condT rfl ?_
  refine AW_seq ?_
  refine AW_region ?_
  refine AL_p (x_move rfl rfl) ?_
  refine AL_p (x_move rfl rfl) ?_
  refine AL_p (x_move rfl rfl) ?_
  refine AL_p (x_move rfl rfl) ?_
  refine AL_p (x_oslindex (n := 1) rfl rfl rfl rfl (by kernel_rfl) rfl (k := j - k) (by omega) (by omega) (k1 := j) (by omega)) ?_
  refine AL_p (x_oloadN (n := 1) rfl rfl rfl (by kernel_rfl) (by rw [uniqA_len (by omega)]; omega) rfl rfl) ?_
  refine AL_p (x_oindex (n := 1) rfl rfl rfl rfl (by kernel_rfl) rfl (k := (uniqR us j).length) rfl (by rw [uniqA_len (by omega)]; omega)) ?_
  refine AL_p (x_ostore (((uniqA us j)[j]'(by rw [uniqA_len (by omega)]; omega))) rfl rfl rfl rfl (by kernel_rfl) rfl rfl rfl rfl FitL.rf rfl rfl (by rw [uniqA_len (by omega)]; omega)) ?_
  refine AL_nil ?_
  refine AW_region ?_
  refine AL_p (x_move rfl rfl) ?_
  refine AL_p (x_add rfl rfl rfl (IntWalk.i64_in _ (by omega))) ?_
  refine AL_p (x_assign rfl rfl) ?_
  refine AL_nil ?_
  refine AW_region ?_
  refine AL_p (x_move rfl rfl) ?_
  refine AL_p (x_add rfl rfl rfl (IntWalk.i64_in _ (by omega))) ?_
  refine AL_p (x_assign rfl rfl) ?_
  refine AL_nil ?_
  refine ⟨⟨j + 1, ⟨by omega, by rw [q5.2]; omega⟩⟩, rn [], ?_, by dsimp only; omega⟩
  exact ⟨by (repeat refine ⟨⟨_, rfl, by first | exact VLe.rf | exact vle_int (by dsimp only; omega)⟩, ?_⟩); exact trivial, by (repeat refine ⟨⟨_, rfl, by first | exact BLe.rf | exact BLe.box AllC.rf | exact BLe.arr (by first | exact q2 | exact q5.1 | (unfold uniqA; rw [q5]))⟩, ?_⟩); exact trivial, by repeat (first | exact trivial | refine ⟨⟨rfl, by first | (left; intro h; cases h) | (right; rfl), by first | exact (fun _ h => ⟨_, h⟩) | exact (fun _ _ => ⟨_, rfl⟩) | (intro _ h; cases h)⟩, ?_⟩), rfl⟩

theorem compact_t (xs : List (List Val)) (hl : xs.length ≤ 1048576) (hm : ∀ r ∈ xs, r.length ≤ 1048576) : AT Tryz.prog 83 [.one (.own 0), .one (.clo 84 [])] [(0, some (.arr 72 rowE xs true))] (.one (.own 1)) [(1, some (.arr 72 rowE (uniq xs) true))] :=
  AT.raw (by decide) ⟨_, _, Tryz.func83, rfl, rfl⟩ (fun zs hz => ⟨uniqR zs zs.length, by rw [uniqR_map (Nat.le_refl _), hz]; unfold uniq; rw [← hz, List.length_map], fun hn => hn.sublist (by have := feet_sub (uniqR_sub (us := zs) (k := zs.length)); rwa [List.take_length] at this), fun b hb => by have := feet_sub (uniqR_sub (us := zs) (k := zs.length)); rw [List.take_length] at this; exact this.subset hb, compactRaw_c zs (by rw [← List.length_map (f := Raw.x), hz]; exact hl) (fun r hr => hm _ (by rw [← hz]; exact List.mem_map_of_mem hr))⟩) rfl
end Go.Proofs.YtibhoanjglfaoaaGreat

/- Variables whose rows are said in other words. -/
namespace Go.Proofs.YtibhoanjglfaoaaGreat
open Go.RowKit
set_option linter.unusedVariables false
end Go.Proofs.YtibhoanjglfaoaaGreat

/- Rows joined (printed by walk.py) -/
namespace Go.Proofs.YtibhoanjglfaoaaGreat
open Go.RowKit
set_option linter.unusedVariables false
set_option linter.unusedSimpArgs false
set_option maxRecDepth 100000

set_option maxHeartbeats 4000000 in
theorem concatRow_t {xss : List (List (List Val))} (hl : xss.flatten.length ≤ 2097152) (hn : xss.length ≤ 1048576) : AT Tryz.prog 42 [.one (.own 0)] [(0, some (.arr 61 (sliceE rowE) xss false))] (.one (.own 1)) [(1, some (.arr 72 rowE xss.flatten false))] := by
  refine AT_body1 Tryz.func42 rfl rfl Tryz.ntmps42 rfl Tryz.results42 ?_
  refine AW_seq ?_
  refine AW_region ?_
  refine AL_p (x_assign rfl rfl) ?_
  refine AL_nil ?_
  refine AW_seq ?_
  refine AW_region ?_
  refine AL_p (x_assign rfl rfl) ?_
  refine AL_nil ?_
  refine AW_seq ?_
  refine AW_seq ?_
  refine AW_region ?_
  refine AL_p (x_move rfl rfl) ?_
  refine AL_p (x_olen (E := 61) (n := 1) rfl rfl rfl (by kernel_rfl)) ?_
  refine AL_p (x_move rfl rfl) ?_
  refine AL_nil ?_
  refine AW_block ?_
  refine AW_loop2 (ι := {q : Nat // q ≤ xss.length}) (fun p => [(3, .one (.c (.int .i64 ((xss.take (p.1)).flatten.length : Int)))), (11, .one (.c (.int .i64 ((p.1) : Int))))]) (fun p => []) [0, 9, 10] [0] (fun p => xss.length - (p.1)) ⟨0, by omega⟩ (rn []) ?_ ?_
  exact ⟨by (repeat refine ⟨⟨_, rfl, by first | exact VLe.rf | exact vle_int (by dsimp only; omega)⟩, ?_⟩); exact trivial, by (repeat refine ⟨⟨_, rfl, by first | exact BLe.rf | exact BLe.box AllC.rf | exact BLe.arr (by exact rfl)⟩, ?_⟩); exact trivial, by repeat (first | exact trivial | refine ⟨⟨rfl, by first | (left; intro h; cases h) | (right; rfl), by first | exact (fun _ h => ⟨_, h⟩) | exact (fun _ _ => ⟨_, rfl⟩) | (intro _ h; cases h)⟩, ?_⟩), rfl⟩
  rintro ⟨k, hinv⟩
  dsimp only
  have hf := flat_le (xss := xss) (k := k)
  refine AW_seq ?_
  refine AW_region ?_
  refine AL_b (x_lss rfl rfl rfl) (fun b12 h12 => ?_)
  refine AL_nil ?_
  refine AW_seq ?_
  cases b12
  rotate_left
  · try simp only [tdy] at h12
    refine AW_condT rfl ?_
    refine AW_skip ?_
    refine AW_seq ?_
    refine AW_block ?_
    refine AW_seq ?_
    refine AW_region ?_
    refine AL_p (x_oindex (n := 1) rfl rfl rfl rfl (by kernel_rfl) rfl (k := k) rfl (by omega)) ?_
    refine AL_p (x_oload1 rfl rfl rfl (by kernel_rfl) (by omega) rfl) ?_
    refine AL_p (x_assign rfl rfl) ?_
    refine AL_nil ?_
    refine AW_seq ?_
    refine AW_region ?_
    refine AL_p (x_move rfl rfl) ?_
    refine AL_p (x_move rfl rfl) ?_
    refine AL_p (x_len (E := 72) (n := 1) rfl rfl (by kernel_rfl)) ?_
    refine AL_p (x_add rfl rfl rfl (by have := flat_len1 (xss := xss) (k := k) (by omega); exact IntWalk.i64_in _ (by have := flat_le (xss := xss) (k := k + 1); omega))) ?_
    refine AL_p (x_assign rfl rfl) ?_
    refine AL_nil ?_
    refine AW_seq ?_
    refine AW_region ?_
    refine AL_p (x_move rfl rfl) ?_
    refine AL_b (x_lss rfl rfl rfl) (fun b20 h20 => ?_)
    refine AL_nil ?_
    cases b20
    rotate_left
    · exfalso; have := flat_len1 (xss := xss) (k := k) (by omega); simp at h20; omega
    try simp only [tdy] at h20
    have q4 := flat_len1 (xss := xss) (k := k) (by omega)
    refine AW_condF rfl ?_
    refine AW_skip ?_
    refine AW_region ?_
    refine AL_p (x_add rfl rfl rfl (IntWalk.i64_in _ (by omega))) ?_
    refine AL_p (x_move rfl rfl) ?_
    refine AL_nil ?_
    refine ⟨⟨k + 1, by omega⟩, rn [], ?_, by dsimp only; omega⟩
    exact ⟨by (repeat refine ⟨⟨_, rfl, by first | exact VLe.rf | exact vle_int (by dsimp only; omega)⟩, ?_⟩); exact trivial, by (repeat refine ⟨⟨_, rfl, by first | exact BLe.rf | exact BLe.box AllC.rf | exact BLe.arr (by exact rfl)⟩, ?_⟩); exact trivial, by repeat (first | exact trivial | refine ⟨⟨rfl, by first | (left; intro h; cases h) | (right; rfl), by first | exact (fun _ h => ⟨_, h⟩) | exact (fun _ _ => ⟨_, rfl⟩) | (intro _ h; cases h)⟩, ?_⟩), rfl⟩
  try simp only [tdy] at h12
  have e0 : (xss.take k).flatten = xss.flatten := flat_all (by omega)
  rw [e0]
  refine AW_condF rfl ?_
  refine AW_exit (BQ_hit ?_)
  refine AW_seq ?_
  refine AW_region ?_
  refine AL_p (x_move rfl rfl) ?_
  refine AL_p (x_call1 rfl rfl rfl (growRow_c xss.flatten.length hl 100) rfl rfl rfl rfl) ?_
  refine AL_p (x_assign rfl rfl) ?_
  refine AL_nil ?_
  refine AW_seq ?_
  refine AW_seq ?_
  refine AW_region ?_
  refine AL_p (x_move rfl rfl) ?_
  refine AL_p (x_olen (E := 61) (n := 1) rfl rfl rfl (by kernel_rfl)) ?_
  refine AL_p (x_move rfl rfl) ?_
  refine AL_nil ?_
  refine AW_block ?_
  refine AW_shallow 100 rfl ?_
  refine AW_loop2 (ι := {q : Nat // q ≤ xss.length}) (fun p => [(6, .one (.own 100)), (27, .one (.c (.int .i64 ((p.1) : Int))))]) (fun p => [(100, some (.arr 72 rowE (xss.take (p.1)).flatten false))]) [25, 26] [0] (fun p => xss.length - (p.1)) ⟨0, by omega⟩ (rn []) ?_ ?_
  exact ⟨by (repeat refine ⟨⟨_, rfl, by first | exact VLe.rf | exact vle_int (by dsimp only; omega)⟩, ?_⟩); exact trivial, by (repeat refine ⟨⟨_, rfl, by first | exact BLe.rf | exact BLe.box AllC.rf | exact BLe.arr (by first | exact flat_zero | exact flat_more (by omega))⟩, ?_⟩); exact trivial, by repeat (first | exact trivial | refine ⟨⟨rfl, by first | (left; intro h; cases h) | (right; rfl), by first | exact (fun _ h => ⟨_, h⟩) | exact (fun _ _ => ⟨_, rfl⟩) | (intro _ h; cases h)⟩, ?_⟩), rfl⟩
  rintro ⟨k, hinv⟩
  dsimp only
  refine AW_seq ?_
  refine AW_region ?_
  refine AL_b (x_lss rfl rfl rfl) (fun b28 h28 => ?_)
  refine AL_nil ?_
  refine AW_seq ?_
  cases b28
  · try simp only [tdy] at h28
    refine AW_condF rfl ?_
    refine AW_exit (BQ_hit ?_)
    refine AW_seq ?_
    refine AW_region ?_
    refine AL_p (x_move rfl rfl) ?_
    refine AL_p (x_assign rfl rfl) ?_
    refine AL_nil ?_
    refine AW_ret ?_
    exact ⟨rn [(1, 100)], ⟨⟨⟨_, rfl, VLe.rf⟩, trivial⟩, ⟨⟨_, rfl, BLe.arr (flat_all (by omega))⟩, trivial⟩, trivial, rfl⟩⟩
  try simp only [tdy] at h28
  refine AW_condT rfl ?_
  refine AW_skip ?_
  refine AW_seq ?_
  refine AW_block ?_
  refine AW_seq ?_
  refine AW_region ?_
  refine AL_p (x_oindex (n := 1) rfl rfl rfl rfl (by kernel_rfl) rfl (k := k) rfl (by omega)) ?_
  refine AL_p (x_oload1 rfl rfl rfl (by kernel_rfl) (by omega) rfl) ?_
  refine AL_p (x_assign rfl rfl) ?_
  refine AL_nil ?_
  refine AW_region ?_
  refine AL_p (x_move rfl rfl) ?_
  refine AL_p (x_move rfl rfl) ?_
  refine AL_p (y_append_sl 101 false (.inl rfl) rfl rfl rfl rfl rfl rfl (by kernel_rfl) (by have := flat_le (xss := xss) (k := k + 1); have := flat_len1 (xss := xss) (k := k) (by omega); omega)) ?_
  refine AL_p (x_assign rfl rfl) ?_
  refine AL_nil ?_
  refine AW_region ?_
  refine AL_p (x_add rfl rfl rfl (IntWalk.i64_in _ (by omega))) ?_
  refine AL_p (x_move rfl rfl) ?_
  refine AL_nil ?_
  refine ⟨⟨k + 1, by omega⟩, rn [(100, 101)], ?_, by dsimp only; omega⟩
  exact ⟨by (repeat refine ⟨⟨_, rfl, by first | exact VLe.rf | exact vle_int (by dsimp only; omega)⟩, ?_⟩); exact trivial, by (repeat refine ⟨⟨_, rfl, by first | exact BLe.rf | exact BLe.box AllC.rf | exact BLe.arr (by first | exact flat_zero | exact flat_more (by omega))⟩, ?_⟩); exact trivial, by repeat (first | exact trivial | refine ⟨⟨rfl, by first | (left; intro h; cases h) | (right; rfl), by first | exact (fun _ h => ⟨_, h⟩) | exact (fun _ _ => ⟨_, rfl⟩) | (intro _ h; cases h)⟩, ?_⟩), rfl⟩

set_option maxHeartbeats 4000000 in
theorem relOfI_c0 (ar : Int) (rows : List (List Val)) (hv : ValsOk rows) (hs : smallRel ⟨ar, rows⟩) : AC Tryz.prog 41 [.one (.c (.int .i64 ar)), .one (.sl rowE rows)] [] (.tup [.agg [.c (.int .i64 (relOf ar rows).1.arity), .own 0], .one (.c (.bool (relOf ar rows).2))]) [(0, some (.arr 72 rowE (relOf ar rows).1.rows true))] := by
  refine AC_bodyCT (n := 2) (k := 9) (T := [(4, .one (.ptr 9 0)), (5, .one (.c (.bool (relOf ar rows).2)))]) (Lf := ((9, some (.box [.c (.int .i64 (relOf ar rows).1.arity), .own 0])) :: [(0, some (.arr 72 rowE (relOf ar rows).1.rows true))])) Tryz.func41 rfl rfl Tryz.ntmps41 rfl Tryz.results41 rfl rfl rfl rfl (by kernel_rfl) rfl rfl ⟨trivial, (by repeat (first | exact trivial | refine ⟨⟨_, rfl, BLe.rf⟩, ?_⟩)), (by repeat (first | exact trivial | refine ⟨⟨rfl, by first | (left; intro h; cases h) | (right; rfl), by first | exact (fun _ h => ⟨_, h⟩) | exact (fun _ _ => ⟨_, rfl⟩) | (intro _ h; cases h)⟩, ?_⟩)), rfl⟩ ?_
  refine AW_seq ?_
  refine AW_region ?_
  refine AL_p (x_alloc (z := .agg #[.int .i64 0, .slice none 0 0]) 100 rfl (by kernel_rfl) rfl rfl rfl rfl) ?_
  refine AL_p (x_assign rfl rfl) ?_
  refine AL_nil ?_
  refine AW_seq ?_
  refine AW_region ?_
  refine AL_p (x_move rfl rfl) ?_
  refine AL_p (x_move rfl rfl) ?_
  refine AL_p (x_build (zs := [.int .i64 0, .slice none 0 0]) (places := [(0, 1), (1, 1)]) rfl (by kernel_rfl) rfl rfl rfl rfl rfl) ?_
  refine AL_p (x_call1 rfl rfl rfl (copyI_c ⟨ar, rows⟩ hs 0) rfl rfl rfl rfl) ?_
  refine AL_p (x_alloc (z := .agg #[.int .i64 0, .slice none 0 0]) 101 rfl (by kernel_rfl) rfl rfl rfl rfl) ?_
  refine AL_p (x_store (n := 2) rfl rfl rfl rfl (by kernel_rfl) rfl rfl rfl) ?_
  refine AL_nil ?_
  refine AW_seq ?_
  refine AW_region ?_
  refine AL_p (x_field (off := 1) (o' := 1) rfl rfl rfl (by kernel_rfl) rfl) ?_
  refine AL_p (x_load1 rfl rfl rfl (by kernel_rfl) rfl) ?_
  refine AL_p (x_call (ks := []) (L := [(0, some _)]) (L' := [(0, some _)]) rfl rfl rfl (sortRow_c rows hv hs.1 true) rfl AllV.rf (caught_of rfl) rfl rfl rfl ⟨rfl, trivial⟩ rfl) ?_
  refine AL_nil ?_
  refine AW_seq ?_
  refine AW_region ?_
  refine AL_p (x_field (off := 1) (o' := 1) rfl rfl rfl (by kernel_rfl) rfl) ?_
  refine AL_p (x_load1 rfl rfl rfl (by kernel_rfl) rfl) ?_
  refine AL_p (x_call (ks := []) (L := [(0, some _)]) (L' := [(0, none), (102, some _)]) rfl rfl rfl (AT.lend1 (compact_t (ordRows rows) (by rw [ordRows_len hv]; exact hs.1) (ordRows_small hv fun r hr => (hs.2 r hr).1)) 0 102 rfl (fun _ => rfl)) rfl AllV.rf (caught_of rfl) rfl rfl rfl ⟨rfl, trivial⟩ rfl) ?_
  refine AL_p (x_field (off := 1) (o' := 1) rfl rfl rfl (by kernel_rfl) rfl) ?_
  refine AL_p (x_store (n := 1) rfl rfl rfl rfl (by kernel_rfl) rfl rfl rfl) ?_
  refine AL_nil ?_
  refine AW_seq ?_
  refine AW_seq ?_
  refine AW_region ?_
  refine AL_p (x_field (off := 1) (o' := 1) rfl rfl rfl (by kernel_rfl) rfl) ?_
  refine AL_p (x_load1 rfl rfl rfl (by kernel_rfl) rfl) ?_
  refine AL_p (x_olen (E := 72) (n := 1) rfl rfl rfl (by kernel_rfl)) ?_
  refine AL_b (x_gtr rfl rfl rfl) (fun b21 h21 => ?_)
  refine AL_nil ?_
  cases b21
  rotate_left
  · try simp only [tdy] at h21
    have hso := ordRows_uniq hv
    have hno := relOf_big (ar := ar) (rows := rows) (by rw [← hso]; omega)
    refine AW_condT rfl ?_
    refine AW_seq ?_
    refine AW_region ?_
    refine AL_p (x_build (zs := [.int .i64 0, .slice none 0 0]) (places := [(0, 1), (1, 1)]) rfl (by kernel_rfl) rfl rfl rfl rfl rfl) ?_
    refine AL_p (x_store (n := 2) rfl rfl rfl rfl (by kernel_rfl) rfl rfl rfl) ?_
    refine AL_p (x_assign rfl rfl) ?_
    refine AL_nil ?_
    refine AW_adopt (T := 72) (e := rowE) 103 100 1 rfl rfl rfl rfl rfl ?_
    refine AW_ret ?_
    exact ⟨rn [(9, 100), (0, 103)], ⟨⟨⟨_, rfl, VLe.rf⟩, ⟨_, rfl, by first | (refine vle_bool ?_; rw [hno]; done) | exact VLe.rf | (refine vle_bool ?_; rw [hno]; apply Eq.symm; assumption) | exact vle_bool (by rw [hno])⟩, trivial⟩, ⟨⟨_, rfl, by first | (refine ble_eq ?_; rw [hno]; done) | (refine ble_eq ?_; rw [hno]; rfl) | exact BLe.rf⟩, ⟨_, rfl, by first | (refine BLe.arr ?_; rw [hno]; done) | (refine BLe.arr ?_; rw [hno]; exact hso) | (refine BLe.arr ?_; rw [hno]; rfl) | exact BLe.rf⟩, trivial⟩, trivial, rfl⟩⟩
  try simp only [tdy] at h21
  have hso := ordRows_uniq hv
  have hno := relOf_ok (ar := ar) (rows := rows) (by rw [← hso]; omega)
  refine AW_condF rfl ?_
  refine AW_skip ?_
  refine AW_seq ?_
  refine AW_region ?_
  refine AL_p (x_loadN (n := 2) rfl rfl rfl (by kernel_rfl) rfl rfl) ?_
  refine AL_p (x_store (n := 2) rfl rfl rfl rfl (by kernel_rfl) rfl rfl rfl) ?_
  refine AL_p (x_assign rfl rfl) ?_
  refine AL_nil ?_
  refine AW_ret ?_
  exact ⟨rn [(9, 100), (0, 102)], ⟨⟨⟨_, rfl, VLe.rf⟩, ⟨_, rfl, by first | (refine vle_bool ?_; rw [hno]; done) | exact VLe.rf | (refine vle_bool ?_; rw [hno]; apply Eq.symm; assumption) | exact vle_bool (by rw [hno])⟩, trivial⟩, ⟨⟨_, rfl, by first | (refine ble_eq ?_; rw [hno]; done) | (refine ble_eq ?_; rw [hno]; rfl) | exact BLe.rf⟩, ⟨_, rfl, by first | (refine BLe.arr ?_; rw [hno]; done) | (refine BLe.arr ?_; rw [hno]; exact hso) | (refine BLe.arr ?_; rw [hno]; rfl) | exact BLe.rf⟩, trivial⟩, trivial, rfl⟩⟩
theorem relOfI_c (ar : Int) (rows : List (List Val)) (hv : ValsOk rows) (hs : smallRel ⟨ar, rows⟩) (k : Nat) : AC Tryz.prog 41 [.one (.c (.int .i64 ar)), .one (.sl rowE rows)] [] (.tup [.agg [.c (.int .i64 (relOf ar rows).1.arity), .own k], .one (.c (.bool (relOf ar rows).2))]) [(k, some (.arr 72 rowE (relOf ar rows).1.rows true))] := AC.at (relOfI_c0 ar rows hv hs) k

end Go.Proofs.YtibhoanjglfaoaaGreat

/- One change out of two (printed by walk.py) -/
namespace Go.Proofs.YtibhoanjglfaoaaGreat
open Go.RowKit
set_option linter.unusedVariables false
set_option linter.unusedSimpArgs false
set_option maxRecDepth 100000

set_option maxHeartbeats 4000000 in
theorem changeOfI_c (d : Deltat) (n : ByteArray) (ar : Int) (hd : d.changes.length ≤ 1048576) : AC Tryz.prog 59 [.agg (deltaC d), .one (.c (.string n)), .one (.c (.int .i64 (ar)))] [] (.agg (changeC (changeOf d n ar))) [] := by
  refine AC_bodyC (n := 5) (k := 9) (T := [(6, .one (.ptr 9 0))]) (Lf := ((9, some (.box (changeC (changeOf d n ar)))) :: [])) Tryz.func59 rfl rfl Tryz.ntmps59 rfl Tryz.results59 rfl rfl (by kernel_rfl) rfl rfl ⟨trivial, (by repeat (first | exact trivial | refine ⟨⟨_, rfl, BLe.rf⟩, ?_⟩)), (by repeat (first | exact trivial | refine ⟨⟨rfl, by first | (left; intro h; cases h) | (right; rfl), by first | exact (fun _ h => ⟨_, h⟩) | exact (fun _ _ => ⟨_, rfl⟩) | (intro _ h; cases h)⟩, ?_⟩)), rfl⟩ ?_
  refine AW_seq ?_
  refine AW_region ?_
  refine AL_p (x_box 100 rfl rfl rfl rfl rfl rfl rfl) ?_
  refine AL_p (x_alloc (z := .agg #[.string ⟨#[]⟩, .int .i64 0, .slice none 0 0, .int .i64 0, .slice none 0 0]) 101 rfl (by kernel_rfl) rfl rfl rfl rfl) ?_
  refine AL_nil ?_
  refine AW_seq ?_
  refine AW_seq ?_
  refine AW_region ?_
  refine AL_p (x_field (off := 0) (o' := 0) rfl rfl rfl (by kernel_rfl) rfl) ?_
  refine AL_p (x_load1 rfl rfl rfl (by kernel_rfl) rfl) ?_
  refine AL_p (x_len (E := 65) (n := 5) rfl rfl (by kernel_rfl)) ?_
  refine AL_p (x_move rfl rfl) ?_
  refine AL_nil ?_
  refine AW_block ?_
  refine AW_loop2 (ι := {q : Nat // q ≤ d.changes.length ∧ NoneTo (fun x => x.name == n) d.changes q}) (fun p => [(12, .one (.c (.int .i64 ((p.1) : Int))))]) (fun p => []) [1, 2, 6, 10, 11] [100, 101] (fun p => d.changes.length - (p.1)) ⟨0, ⟨by omega, .zero⟩⟩ (rn []) ?_ ?_
  exact ⟨by (repeat refine ⟨⟨_, rfl, by first | exact VLe.rf | exact vle_int (by dsimp only; omega)⟩, ?_⟩); exact trivial, by (repeat refine ⟨⟨_, rfl, by first | exact BLe.rf | exact BLe.box AllC.rf | exact BLe.arr (by exact rfl)⟩, ?_⟩); exact trivial, by repeat (first | exact trivial | refine ⟨⟨rfl, by first | (left; intro h; cases h) | (right; rfl), by first | exact (fun _ h => ⟨_, h⟩) | exact (fun _ _ => ⟨_, rfl⟩) | (intro _ h; cases h)⟩, ?_⟩), rfl⟩
  rintro ⟨k, hinv⟩
  dsimp only
  obtain ⟨hk, hA⟩ := hinv
  refine AW_seq ?_
  refine AW_region ?_
  refine AL_b (x_lss rfl rfl rfl) (fun b13 h13 => ?_)
  refine AL_nil ?_
  refine AW_seq ?_
  cases b13
  · try simp only [tdy] at h13
    refine AW_condF rfl ?_
    refine AW_exit (BQ_hit ?_)
    refine AW_seq ?_
    refine AW_region ?_
    refine AL_p (x_move rfl rfl) ?_
    refine AL_p (x_move rfl rfl) ?_
    refine AL_p (x_build (zs := [.int .i64 0, .slice none 0 0]) (places := [(0, 1), (1, 1)]) rfl (by kernel_rfl) rfl rfl rfl rfl rfl) ?_
    refine AL_p (x_move rfl rfl) ?_
    refine AL_p (x_build (zs := [.int .i64 0, .slice none 0 0]) (places := [(0, 1), (1, 1)]) rfl (by kernel_rfl) rfl rfl rfl rfl rfl) ?_
    refine AL_p (x_build (zs := [.string ⟨#[]⟩, .int .i64 0, .slice none 0 0, .int .i64 0, .slice none 0 0]) (places := [(0, 1), (1, 2), (3, 2)]) rfl (by kernel_rfl) rfl rfl rfl rfl rfl) ?_
    refine AL_p (x_store (n := 5) rfl rfl rfl rfl (by kernel_rfl) rfl rfl rfl) ?_
    refine AL_nil ?_
    refine AW_ret ?_
    exact ⟨rn [(9, 101)], ⟨⟨⟨_, rfl, VLe.rf⟩, trivial⟩, ⟨⟨_, rfl, by rw [changeOf_none hA (by omega)]; exact BLe.box ⟨CLe.rf, CLe.rf, CLe.nil, CLe.rf, CLe.nil, trivial⟩⟩, trivial⟩, trivial, rfl⟩⟩
  try simp only [tdy] at h13
  refine AW_condT rfl ?_
  refine AW_skip ?_
  refine AW_seq ?_
  refine AW_block ?_
  refine AW_seq ?_
  refine AW_region ?_
  refine AL_p (x_index (E := 65) (n := 5) rfl rfl rfl (by kernel_rfl) rfl (k := k) (by omega) (by omega)) ?_
  refine AL_p (x_eloadW (n := 5) rfl rfl (by kernel_rfl) rfl) ?_
  refine AL_p (x_alloc (z := .agg #[.string ⟨#[]⟩, .int .i64 0, .slice none 0 0, .int .i64 0, .slice none 0 0]) 102 rfl (by kernel_rfl) rfl rfl rfl rfl) ?_
  refine AL_p (x_store (n := 5) rfl rfl rfl rfl (by kernel_rfl) rfl rfl rfl) ?_
  refine AL_nil ?_
  refine AW_seq ?_
  refine AW_region ?_
  refine AL_p (x_field (off := 0) (o' := 0) rfl rfl rfl (by kernel_rfl) rfl) ?_
  refine AL_p (x_load1 rfl rfl rfl (by kernel_rfl) rfl) ?_
  refine AL_p (x_move rfl rfl) ?_
  refine AL_b (x_seql rfl rfl rfl) (fun b19 h19 => ?_)
  refine AL_nil ?_
  cases b19
  rotate_left
  · try simp only [tdy] at h19
    refine AW_condT rfl ?_
    refine AW_seq ?_
    refine AW_region ?_
    refine AL_p (x_loadN (n := 5) rfl rfl rfl (by kernel_rfl) rfl rfl) ?_
    refine AL_p (x_store (n := 5) rfl rfl rfl rfl (by kernel_rfl) rfl rfl rfl) ?_
    refine AL_nil ?_
    refine AW_ret (BQ_ret (BQ_ret ?_))
    exact ⟨rn [(9, 101)], ⟨⟨⟨_, rfl, VLe.rf⟩, trivial⟩, ⟨⟨_, rfl, by rw [changeOf_at (by omega) hA h19]; exact BLe.rf⟩, trivial⟩, trivial, rfl⟩⟩
  try simp only [tdy] at h19
  refine AW_condF rfl ?_
  refine AW_skip ?_
  refine AW_region ?_
  refine AL_p (x_add rfl rfl rfl (IntWalk.i64_in _ (by omega))) ?_
  refine AL_p (x_move rfl rfl) ?_
  refine AL_nil ?_
  refine ⟨⟨k + 1, ⟨by omega, hA.succ (by omega) h19⟩⟩, rn [], ?_, by dsimp only; omega⟩
  exact ⟨by (repeat refine ⟨⟨_, rfl, by first | exact VLe.rf | exact vle_int (by dsimp only; omega)⟩, ?_⟩); exact trivial, by (repeat refine ⟨⟨_, rfl, by first | exact BLe.rf | exact BLe.box AllC.rf | exact BLe.arr (by exact rfl)⟩, ?_⟩); exact trivial, by repeat (first | exact trivial | refine ⟨⟨rfl, by first | (left; intro h; cases h) | (right; rfl), by first | exact (fun _ h => ⟨_, h⟩) | exact (fun _ _ => ⟨_, rfl⟩) | (intro _ h; cases h)⟩, ?_⟩), rfl⟩

set_option maxHeartbeats 4000000 in
theorem concatRowD_t {xss : List (List (List Val))} (hl : xss.flatten.length ≤ 2097152) (hn : xss.length ≤ 1048576) : AT Tryz.prog 42 [.one (.own 0)] [(0, some (.arr 61 (sliceE rowE) xss true))] (.one (.own 1)) [(1, some (.arr 72 rowE xss.flatten false))] := by
  refine AT_body1 Tryz.func42 rfl rfl Tryz.ntmps42 rfl Tryz.results42 ?_
  refine AW_seq ?_
  refine AW_region ?_
  refine AL_p (x_assign rfl rfl) ?_
  refine AL_nil ?_
  refine AW_seq ?_
  refine AW_region ?_
  refine AL_p (x_assign rfl rfl) ?_
  refine AL_nil ?_
  refine AW_seq ?_
  refine AW_seq ?_
  refine AW_region ?_
  refine AL_p (x_move rfl rfl) ?_
  refine AL_p (x_olen (E := 61) (n := 1) rfl rfl rfl (by kernel_rfl)) ?_
  refine AL_p (x_move rfl rfl) ?_
  refine AL_nil ?_
  refine AW_block ?_
  refine AW_shallow 0 rfl ?_
  refine AW_loop2 (ι := {q : Nat // q ≤ xss.length}) (fun p => [(3, .one (.c (.int .i64 ((xss.take (p.1)).flatten.length : Int)))), (11, .one (.c (.int .i64 ((p.1) : Int))))]) (fun p => []) [0, 9, 10] [0] (fun p => xss.length - (p.1)) ⟨0, by omega⟩ (rn []) ?_ ?_
  exact ⟨by (repeat refine ⟨⟨_, rfl, by first | exact VLe.rf | exact vle_int (by dsimp only; omega)⟩, ?_⟩); exact trivial, by (repeat refine ⟨⟨_, rfl, by first | exact BLe.rf | exact BLe.box AllC.rf | exact BLe.arr (by exact rfl)⟩, ?_⟩); exact trivial, by repeat (first | exact trivial | refine ⟨⟨rfl, by first | (left; intro h; cases h) | (right; rfl), by first | exact (fun _ h => ⟨_, h⟩) | exact (fun _ _ => ⟨_, rfl⟩) | (intro _ h; cases h)⟩, ?_⟩), rfl⟩
  rintro ⟨k, hinv⟩
  dsimp only
  have hf := flat_le (xss := xss) (k := k)
  refine AW_seq ?_
  refine AW_region ?_
  refine AL_b (x_lss rfl rfl rfl) (fun b12 h12 => ?_)
  refine AL_nil ?_
  refine AW_seq ?_
  cases b12
  rotate_left
  · try simp only [tdy] at h12
    refine AW_condT rfl ?_
    refine AW_skip ?_
    refine AW_seq ?_
    refine AW_block ?_
    refine AW_seq ?_
    refine AW_region ?_
    refine AL_p (x_oindex (n := 1) rfl rfl rfl rfl (by kernel_rfl) rfl (k := k) rfl (by omega)) ?_
    refine AL_p (x_oload1 rfl rfl rfl (by kernel_rfl) (by omega) rfl) ?_
    refine AL_p (x_assign rfl rfl) ?_
    refine AL_nil ?_
    refine AW_seq ?_
    refine AW_region ?_
    refine AL_p (x_move rfl rfl) ?_
    refine AL_p (x_move rfl rfl) ?_
    refine AL_p (x_len (E := 72) (n := 1) rfl rfl (by kernel_rfl)) ?_
    refine AL_p (x_add rfl rfl rfl (by have := flat_len1 (xss := xss) (k := k) (by omega); exact IntWalk.i64_in _ (by have := flat_le (xss := xss) (k := k + 1); omega))) ?_
    refine AL_p (x_assign rfl rfl) ?_
    refine AL_nil ?_
    refine AW_seq ?_
    refine AW_region ?_
    refine AL_p (x_move rfl rfl) ?_
    refine AL_b (x_lss rfl rfl rfl) (fun b20 h20 => ?_)
    refine AL_nil ?_
    cases b20
    rotate_left
    · exfalso; have := flat_len1 (xss := xss) (k := k) (by omega); simp at h20; omega
    try simp only [tdy] at h20
    have q4 := flat_len1 (xss := xss) (k := k) (by omega)
    refine AW_condF rfl ?_
    refine AW_skip ?_
    refine AW_region ?_
    refine AL_p (x_add rfl rfl rfl (IntWalk.i64_in _ (by omega))) ?_
    refine AL_p (x_move rfl rfl) ?_
    refine AL_nil ?_
    refine ⟨⟨k + 1, by omega⟩, rn [], ?_, by dsimp only; omega⟩
    exact ⟨by (repeat refine ⟨⟨_, rfl, by first | exact VLe.rf | exact vle_int (by dsimp only; omega)⟩, ?_⟩); exact trivial, by (repeat refine ⟨⟨_, rfl, by first | exact BLe.rf | exact BLe.box AllC.rf | exact BLe.arr (by exact rfl)⟩, ?_⟩); exact trivial, by repeat (first | exact trivial | refine ⟨⟨rfl, by first | (left; intro h; cases h) | (right; rfl), by first | exact (fun _ h => ⟨_, h⟩) | exact (fun _ _ => ⟨_, rfl⟩) | (intro _ h; cases h)⟩, ?_⟩), rfl⟩
  try simp only [tdy] at h12
  have e0 : (xss.take k).flatten = xss.flatten := flat_all (by omega)
  rw [e0]
  refine AW_condF rfl ?_
  refine AW_exit (BQ_hit ?_)
  refine AW_seq ?_
  refine AW_region ?_
  refine AL_p (x_move rfl rfl) ?_
  refine AL_p (x_call1 rfl rfl rfl (growRow_c xss.flatten.length hl 100) rfl rfl rfl rfl) ?_
  refine AL_p (x_assign rfl rfl) ?_
  refine AL_nil ?_
  refine AW_seq ?_
  refine AW_seq ?_
  refine AW_region ?_
  refine AL_p (x_move rfl rfl) ?_
  refine AL_p (x_olen (E := 61) (n := 1) rfl rfl rfl (by kernel_rfl)) ?_
  refine AL_p (x_move rfl rfl) ?_
  refine AL_nil ?_
  refine AW_block ?_
  refine AW_shallow 100 rfl ?_
  refine AW_loop2 (ι := {q : Nat // q ≤ xss.length}) (fun p => [(6, .one (.own 100)), (27, .one (.c (.int .i64 ((p.1) : Int))))]) (fun p => [(100, some (.arr 72 rowE (xss.take (p.1)).flatten false))]) [25, 26] [0] (fun p => xss.length - (p.1)) ⟨0, by omega⟩ (rn []) ?_ ?_
  exact ⟨by (repeat refine ⟨⟨_, rfl, by first | exact VLe.rf | exact vle_int (by dsimp only; omega)⟩, ?_⟩); exact trivial, by (repeat refine ⟨⟨_, rfl, by first | exact BLe.rf | exact BLe.box AllC.rf | exact BLe.arr (by first | exact flat_zero | exact flat_more (by omega))⟩, ?_⟩); exact trivial, by repeat (first | exact trivial | refine ⟨⟨rfl, by first | (left; intro h; cases h) | (right; rfl), by first | exact (fun _ h => ⟨_, h⟩) | exact (fun _ _ => ⟨_, rfl⟩) | (intro _ h; cases h)⟩, ?_⟩), rfl⟩
  rintro ⟨k, hinv⟩
  dsimp only
  refine AW_seq ?_
  refine AW_region ?_
  refine AL_b (x_lss rfl rfl rfl) (fun b28 h28 => ?_)
  refine AL_nil ?_
  refine AW_seq ?_
  cases b28
  · try simp only [tdy] at h28
    refine AW_condF rfl ?_
    refine AW_exit (BQ_hit ?_)
    refine AW_seq ?_
    refine AW_region ?_
    refine AL_p (x_move rfl rfl) ?_
    refine AL_p (x_assign rfl rfl) ?_
    refine AL_nil ?_
    refine AW_ret ?_
    exact ⟨rn [(1, 100)], ⟨⟨⟨_, rfl, VLe.rf⟩, trivial⟩, ⟨⟨_, rfl, BLe.arr (flat_all (by omega))⟩, trivial⟩, trivial, rfl⟩⟩
  try simp only [tdy] at h28
  refine AW_condT rfl ?_
  refine AW_skip ?_
  refine AW_seq ?_
  refine AW_block ?_
  refine AW_seq ?_
  refine AW_region ?_
  refine AL_p (x_oindex (n := 1) rfl rfl rfl rfl (by kernel_rfl) rfl (k := k) rfl (by omega)) ?_
  refine AL_p (x_oload1 rfl rfl rfl (by kernel_rfl) (by omega) rfl) ?_
  refine AL_p (x_assign rfl rfl) ?_
  refine AL_nil ?_
  refine AW_region ?_
  refine AL_p (x_move rfl rfl) ?_
  refine AL_p (x_move rfl rfl) ?_
  refine AL_p (y_append_sl 101 false (.inl rfl) rfl rfl rfl rfl rfl rfl (by kernel_rfl) (by have := flat_le (xss := xss) (k := k + 1); have := flat_len1 (xss := xss) (k := k) (by omega); omega)) ?_
  refine AL_p (x_assign rfl rfl) ?_
  refine AL_nil ?_
  refine AW_region ?_
  refine AL_p (x_add rfl rfl rfl (IntWalk.i64_in _ (by omega))) ?_
  refine AL_p (x_move rfl rfl) ?_
  refine AL_nil ?_
  refine ⟨⟨k + 1, by omega⟩, rn [(100, 101)], ?_, by dsimp only; omega⟩
  exact ⟨by (repeat refine ⟨⟨_, rfl, by first | exact VLe.rf | exact vle_int (by dsimp only; omega)⟩, ?_⟩); exact trivial, by (repeat refine ⟨⟨_, rfl, by first | exact BLe.rf | exact BLe.box AllC.rf | exact BLe.arr (by first | exact flat_zero | exact flat_more (by omega))⟩, ?_⟩); exact trivial, by repeat (first | exact trivial | refine ⟨⟨rfl, by first | (left; intro h; cases h) | (right; rfl), by first | exact (fun _ h => ⟨_, h⟩) | exact (fun _ _ => ⟨_, rfl⟩) | (intro _ h; cases h)⟩, ?_⟩), rfl⟩

theorem relOfP_c (ar : Int) (p q : List (List Val)) (hv : ValsOk (p ++ q)) (hs : smallRel ⟨ar, p ++ q⟩) (k : Nat) :
    AC Tryz.prog 41 [.one (.c (.int .i64 ar)), .one (.sl rowE [p, q].flatten)] [] (.tup [.agg [.c (.int .i64 (relOf ar (p ++ q)).1.arity), .own k], .one (.c (.bool (relOf ar (p ++ q)).2))]) [(k, some (.arr 72 rowE (relOf ar (p ++ q)).1.rows true))] := by
  rw [flat_two]; exact relOfI_c _ _ hv hs k
end Go.Proofs.YtibhoanjglfaoaaGreat

/- What the steps of a stable sort do to a list: elements exchanged, ranges exchanged, rotated, put in order, merged. -/
namespace Go.Proofs.YtibhoanjglfaoaaGreat
open Go.RowKit
set_option linter.unusedVariables false
set_option linter.unusedSimpArgs false

section
variable {α : Type} {lt : α → α → Bool}
theorem exch_eq {A B C : List α} {x y : α} {W : List α} {i j : Nat} (hW : W = A ++ x :: B ++ y :: C) (hi : i = A.length) (hj : j = A.length + 1 + B.length) :
    ∃ (h1 : i < W.length) (h2 : j < W.length), W[i] = x ∧ W[j] = y ∧ (W.set i y).set j x = A ++ y :: B ++ x :: C ∧ (W.set j x).set i y = A ++ y :: B ++ x :: C := by
  subst hi hj hW
  have e1 : (A ++ x :: B ++ y :: C).set A.length y = A ++ y :: B ++ y :: C := by
    rw [List.append_assoc, List.set_append_right _ _ (Nat.le_refl _), Nat.sub_self]; simp
  have e2 : ∀ z, (A ++ z :: B ++ y :: C).set (A.length + 1 + B.length) x = A ++ z :: B ++ x :: C := fun z => by
    have : A.length + 1 + B.length = (A ++ z :: B).length := by simp; omega
    rw [this, List.set_append_right _ _ (Nat.le_refl _), Nat.sub_self]; simp
  have e3 : (A ++ x :: B ++ x :: C).set A.length y = A ++ y :: B ++ x :: C := by
    rw [List.append_assoc, List.set_append_right _ _ (Nat.le_refl _), Nat.sub_self]; simp
  refine ⟨by simp, by simp; omega, ?_, ?_, by rw [e1, e2], by rw [e2, e3]⟩
  · simp
  · rw [List.getElem_append_right (by simp; omega)]
    simp [show A.length + 1 + B.length - (A.length + (B.length + 1)) = 0 by omega]
/-! ### Two ranges of the same length exchanged -/
def SwI (P X M Y Q : List α) (i : Nat) (W : List α) : Prop := W = P ++ (Y.take i ++ X.drop i) ++ M ++ (X.take i ++ Y.drop i) ++ Q
theorem SwI.zero {P X M Y Q W : List α} (h : W = P ++ X ++ M ++ Y ++ Q) : SwI P X M Y Q 0 W := by simp [SwI, h]
theorem SwI.done {P X M Y Q W : List α} {i : Nat} (h : SwI P X M Y Q i W) (hx : X.length = Y.length) (hi : X.length ≤ i) : W = P ++ Y ++ M ++ X ++ Q := by
  rw [h, List.take_of_length_le (by omega), List.take_of_length_le hi, List.drop_eq_nil_of_le hi, List.drop_eq_nil_of_le (by omega)]; simp
theorem SwI.step {P X M Y Q W : List α} {i p q : Nat} (h : SwI P X M Y Q i W) (hx : X.length = Y.length) (hi : i < X.length) (hp : p = P.length + i) (hq : q = P.length + X.length + M.length + i) (h1 : q < W.length) (h2 : p < W.length) : SwI P X M Y Q (i + 1) ((W.set p W[q]).set q W[p]) := by
  have hW : W = (P ++ Y.take i) ++ X[i] :: (X.drop (i + 1) ++ M ++ X.take i) ++ (Y[i]'(by omega)) :: (Y.drop (i + 1) ++ Q) := by
    rw [h, List.drop_eq_getElem_cons hi, List.drop_eq_getElem_cons (l := Y) (i := i) (by omega)]; simp only [List.append_assoc, List.cons_append, List.nil_append, List.singleton_append]
  obtain ⟨_, _, e1, e2, e3, _⟩ := exch_eq hW (i := p) (j := q) (by simp; omega) (by simp; omega)
  rw [e1, e2, e3]
  unfold SwI
  rw [List.take_succ_eq_append_getElem hi, List.take_succ_eq_append_getElem (l := Y) (i := i) (by omega)]; simp only [List.append_assoc, List.cons_append, List.nil_append, List.singleton_append]
/-! ### A rotation -/
def RoI (R : List α) (m i j : Int) (W : List α) : Prop := ∃ P X Y Q : List α, W = P ++ X ++ Y ++ Q ∧ (P.length : Int) + i = m ∧ (X.length : Int) = i ∧ (Y.length : Int) = j ∧ P ++ Y ++ X ++ Q = R
theorem RoI.left {R P X Y Q W : List α} {m i j : Int} (hj : j < i) (h1 : (P.length : Int) + i = m) (h2 : (X.length : Int) = i) (h3 : (Y.length : Int) = j) (h4 : P ++ Y ++ X ++ Q = R) : RoI R m (i - j) j (P ++ Y ++ X.drop j.toNat ++ X.take j.toNat ++ Q) := by
  refine ⟨P ++ Y, X.drop j.toNat, X.take j.toNat, Q, rfl, by simp; omega, by simp; omega, by simp; omega, ?_⟩
  rw [← h4]
  conv => rhs; rw [← List.take_append_drop j.toNat X]
  simp
theorem RoI.right {R P X Y Q W : List α} {m i j : Int} (hj : i < j) (h1 : (P.length : Int) + i = m) (h2 : (X.length : Int) = i) (h3 : (Y.length : Int) = j) (h4 : P ++ Y ++ X ++ Q = R) : RoI R m i (j - i) (P ++ Y.drop (j - i).toNat ++ Y.take (j - i).toNat ++ X ++ Q) := by
  refine ⟨P, Y.drop (j - i).toNat, Y.take (j - i).toNat, X ++ Q, by simp, h1, by simp; omega, by simp; omega, ?_⟩
  rw [← h4]
  conv => rhs; rw [← List.take_append_drop (j - i).toNat Y]
  simp
theorem cut_left {X : List α} (n : Nat) (P M Q : List α) : P ++ X ++ M ++ Q = P ++ X.take n ++ X.drop n ++ M ++ Q := by
  conv => lhs; rw [← List.take_append_drop n X]
  simp
theorem cut_right {Y : List α} (n : Nat) (P X Q : List α) : P ++ X ++ Y ++ Q = P ++ X ++ Y.take n ++ Y.drop n ++ Q := by
  conv => lhs; rw [← List.take_append_drop n Y]
  simp
/-! ### One put in -/
def InI (lt : α → α → Bool) (P s : List α) (x : α) (Q : List α) (j : Int) (W : List α) : Prop := ∃ u v, s = u ++ v ∧ W = P ++ u ++ x :: v ++ Q ∧ (∀ y ∈ v, lt x y = true) ∧ j = P.length + u.length
theorem InI.zero {P s : List α} {x : α} {Q W : List α} {j : Int} (h : W = P ++ s ++ x :: Q) (hj : j = P.length + s.length) : InI lt P s x Q j W := ⟨s, [], by simp, by simp [h], by simp, hj⟩
theorem InI.at {P s : List α} {x : α} {Q W : List α} {j : Int} (h : InI lt P s x Q j W) : ∃ (h1 : j.toNat < W.length), W[j.toNat] = x := by
  obtain ⟨u, v, rfl, rfl, h3, rfl⟩ := h
  have e : P ++ u ++ x :: v ++ Q = (P ++ u) ++ x :: (v ++ Q) := by simp
  refine ⟨by simp; omega, ?_⟩
  rw [List.getElem_append_left (by simp; omega), List.getElem_append_right (by simp; omega)]
  simp [show ((P.length : Int) + u.length).toNat - (P.length + u.length) = 0 by omega]
theorem InI.split {P s : List α} {x : α} {Q W : List α} {j : Int} (h : InI lt P s x Q j W) (hj : (P.length : Int) < j) : ∃ u y v, s = u ++ y :: v ∧ W = (P ++ u) ++ y :: [] ++ x :: (v ++ Q) ∧ (∀ z ∈ v, lt x z = true) ∧ j = P.length + u.length + 1 := by
  obtain ⟨u, v, rfl, rfl, h3, rfl⟩ := h
  have hne : u ≠ [] := fun e => by subst e; simp at hj
  have e := List.dropLast_concat_getLast hne
  generalize u.dropLast = u1 at e
  generalize u.getLast hne = y at e
  subst e
  exact ⟨u1, y, v, by simp, by simp, h3, by simp; omega⟩
theorem InI.step {P s : List α} {x : α} {Q W : List α} {j : Int} (h : InI lt P s x Q j W) (hj : (P.length : Int) < j) (h1 : j.toNat < W.length) (h2 : j.toNat - 1 < W.length) (hlt : lt W[j.toNat] W[j.toNat - 1] = true) : InI lt P s x Q (j - 1) ((W.set j.toNat W[j.toNat - 1]).set (j.toNat - 1) W[j.toNat]) := by
  obtain ⟨u, y, v, e1, e2, e3, e4⟩ := h.split hj
  obtain ⟨_, _, f1, f2, _, f4⟩ := exch_eq e2 (i := j.toNat - 1) (j := j.toNat) (by simp; omega) (by simp; omega)
  rw [f1, f2] at hlt ⊢
  rw [f4]
  refine ⟨u, y :: v, e1, by simp, fun z hz => ?_, by omega⟩
  rcases List.mem_cons.1 hz with rfl | hz
  · exact hlt
  · exact e3 z hz
theorem InI.done {P s : List α} {x : α} {Q W : List α} {j : Int} (hw : Wk lt) (h : InI lt P s x Q j W) (hs : Srt lt s) (he : ¬ (P.length : Int) < j ∨ ∃ (h1 : j.toNat < W.length) (h2 : j.toNat - 1 < W.length), lt W[j.toNat] W[j.toNat - 1] = false) : W = P ++ insR lt s x ++ Q := by
  by_cases hj : (P.length : Int) < j
  · obtain ⟨h1, h2, hf⟩ := he.resolve_left (fun q => q hj)
    obtain ⟨u, y, v, e1, e2, e3, e4⟩ := h.split hj
    obtain ⟨_, _, f1, f2, _, _⟩ := exch_eq e2 (i := j.toNat - 1) (j := j.toNat) (by simp; omega) (by simp; omega)
    rw [f1, f2] at hf
    have e1' : s = (u ++ [y]) ++ v := by simp [e1]
    rw [e1', insR_all (fun z hz => ?_) e3, e2]
    · simp
    · rw [e1] at hs
      rcases List.mem_append.1 hz with hz | hz
      · exact hw.neg _ _ _ ((List.pairwise_append.1 hs).2.2 z hz y (by simp)) hf
      · rw [List.mem_singleton.1 hz]; exact hf
  · obtain ⟨u, v, rfl, rfl, h3, rfl⟩ := h
    have : u = [] := List.eq_nil_of_length_eq_zero (by omega)
    subst this
    have := insR_all (lt := lt) (u := []) (v := v) (x := x) (by simp) h3
    simp at this ⊢
    rw [this]; simp
/-! ### Insertion sort -/
def OuI (lt : α → α → Bool) (P M Q : List α) (a i : Int) (W : List α) : Prop := a + 1 ≤ i ∧ (i ≤ a + M.length ∨ i = a + 1) ∧ W = P ++ isort lt (M.take (i - a).toNat) ++ M.drop (i - a).toNat ++ Q
theorem isort_one (M : List α) : isort lt (M.take 1) ++ M.drop 1 = M := by cases M <;> simp [isort, mergeI, insR]
theorem OuI.zero {P M Q W : List α} {a : Int} (h : W = P ++ M ++ Q) : OuI lt P M Q a (a + 1) W := by
  refine ⟨by omega, .inr rfl, ?_⟩
  have := isort_one (lt := lt) M
  rw [show (a + 1 - a).toNat = 1 by omega, List.append_assoc P, this, h]
theorem OuI.done {P M Q W : List α} {a i : Int} (h : OuI lt P M Q a i W) (hi : a + M.length ≤ i) : W = P ++ isort lt M ++ Q := by
  obtain ⟨_, _, e⟩ := h
  rw [e, List.take_of_length_le (by omega), List.drop_eq_nil_of_le (by omega)]; simp
theorem OuI.inn {P M Q W : List α} {a i : Int} (h : OuI lt P M Q a i W) (ha : a = P.length) (hi : i < a + M.length) (hk : (i - a).toNat < M.length) : InI lt P (isort lt (M.take (i - a).toNat)) M[(i - a).toNat] (M.drop ((i - a).toNat + 1) ++ Q) i W := by
  obtain ⟨h1, _, e⟩ := h
  refine InI.zero ?_ ?_
  · refine e.trans ?_
    rw [List.drop_eq_getElem_cons (l := M) (i := (i - a).toNat) (by omega)]; simp only [List.append_assoc, List.cons_append, List.nil_append, List.singleton_append]
  · rw [isort_len, List.length_take]; omega
theorem OuI.next {P M Q W : List α} {a i : Int} (h0 : a + 1 ≤ i) (hi : i < a + M.length) (hk : (i - a).toNat < M.length) (h : W = P ++ insR lt (isort lt (M.take (i - a).toNat)) M[(i - a).toNat] ++ (M.drop ((i - a).toNat + 1) ++ Q)) : OuI lt P M Q a (i + 1) W := by
  refine ⟨by omega, .inl (by omega), ?_⟩
  rw [h, show (i + 1 - a).toNat = (i - a).toNat + 1 by omega, List.take_succ_eq_append_getElem (by omega), isort_snoc]; simp only [List.append_assoc, List.cons_append, List.nil_append, List.singleton_append]
/-! ### A search in halves -/
def Bis (T : Int → Bool) (s0 r0 s r : Int) : Prop := s0 ≤ s ∧ s ≤ r ∧ r ≤ r0 ∧ (∀ c, s0 ≤ c → c < s → T c = true) ∧ ∀ c, r ≤ c → c < r0 → T c = false
def Fal (T : Int → Bool) (s0 r0 : Int) : Prop := ∀ c c', s0 ≤ c' → c' ≤ c → c < r0 → T c = true → T c' = true
theorem Bis.zero {T : Int → Bool} {s0 r0 : Int} (h : s0 ≤ r0) : Bis T s0 r0 s0 r0 := ⟨by omega, h, by omega, fun c _ _ => by omega, fun c _ _ => by omega⟩
theorem Bis.up {T : Int → Bool} {s0 r0 s r c : Int} (h : Bis T s0 r0 s r) (hf : Fal T s0 r0) (h1 : s ≤ c) (h2 : c < r) (ht : T c = true) : Bis T s0 r0 (c + 1) r := by
  obtain ⟨a, b, d, e, f⟩ := h
  exact ⟨by omega, by omega, d, fun k hk hk2 => hf c k hk (by omega) (by omega) ht, f⟩
theorem Bis.down {T : Int → Bool} {s0 r0 s r c : Int} (h : Bis T s0 r0 s r) (hf : Fal T s0 r0) (h1 : s ≤ c) (h2 : c < r) (ht : T c = false) : Bis T s0 r0 s c := by
  obtain ⟨a, b, d, e, f⟩ := h
  refine ⟨a, by omega, by omega, e, fun k hk hk2 => ?_⟩
  cases q : T k
  · rfl
  · have := hf k c (by omega) hk hk2 q
    rw [ht] at this; cases this
def ltAt (lt : α → α → Bool) (W : List α) (i j : Nat) : Bool := match W[i]?, W[j]? with | some x, some y => lt x y | _, _ => false
theorem ltAt_eq {W : List α} {i j : Nat} (hi : i < W.length) (hj : j < W.length) : ltAt lt W i j = lt W[i] W[j] := by simp [ltAt, hi, hj]
theorem part_at {P M Q W : List α} {i k : Nat} (hW : W = P ++ M ++ Q) (hk : k < M.length) (hi : i = P.length + k) : ∃ h : i < W.length, W[i] = M[k] := by
  subst hi hW
  refine ⟨by simp; omega, ?_⟩
  rw [List.getElem_append_left (by simp; omega), List.getElem_append_right (by omega)]
  simp
/-- In a sorted range the later is not below the earlier. -/
theorem Srt.range {P M Q W : List α} (hw : Wk lt) (hs : Srt lt M) (hW : W = P ++ M ++ Q) {i j : Nat} (h1 : P.length ≤ i) (hij : i ≤ j) (h2 : j < P.length + M.length) : ∃ (hi : i < W.length) (hj : j < W.length), lt W[j] W[i] = false := by
  obtain ⟨a, ea⟩ := part_at hW (k := i - P.length) (i := i) (by omega) (by omega)
  obtain ⟨b, eb⟩ := part_at hW (k := j - P.length) (i := j) (by omega) (by omega)
  exact ⟨a, b, by rw [ea, eb]; exact hs.get hw (by omega) (by omega)⟩
/-! ### One on the left -/
def LeI (P : List α) (x : α) (B Q : List α) (k : Int) (W : List α) : Prop := ∃ t : Nat, t ≤ B.length ∧ k = P.length + t ∧ W = P ++ B.take t ++ x :: B.drop t ++ Q
theorem LeI.zero {P : List α} {x : α} {B Q W : List α} {k : Int} (h : W = P ++ [x] ++ B ++ Q) (hk : k = P.length) : LeI P x B Q k W := ⟨0, by omega, by omega, by simp [h]⟩
theorem LeI.step {P : List α} {x : α} {B Q W : List α} {k : Int} (h : LeI P x B Q k W) (hk : k < P.length + B.length) (h1 : k.toNat + 1 < W.length) (h2 : k.toNat < W.length) : LeI P x B Q (k + 1) ((W.set k.toNat W[k.toNat + 1]).set (k.toNat + 1) W[k.toNat]) := by
  obtain ⟨t, ht, rfl, e⟩ := h
  have hW : W = (P ++ B.take t) ++ x :: [] ++ (B[t]'(by omega)) :: (B.drop (t + 1) ++ Q) := by
    rw [e, List.drop_eq_getElem_cons (l := B) (i := t) (by omega)]; simp only [List.append_assoc, List.cons_append, List.nil_append, List.singleton_append]
  obtain ⟨_, _, f1, f2, f3, _⟩ := exch_eq hW (i := ((P.length : Int) + t).toNat) (j := ((P.length : Int) + t).toNat + 1) (by simp; omega) (by simp; omega)
  rw [f1, f2, f3]
  exact ⟨t + 1, by omega, by omega, by rw [List.take_succ_eq_append_getElem (by omega)]; simp only [List.append_assoc, List.cons_append, List.nil_append, List.singleton_append]⟩
theorem LeI.done {P : List α} {x : α} {B Q W : List α} {k : Int} (h : LeI P x B Q k W) : W = P ++ (B.take (k - P.length).toNat ++ x :: B.drop (k - P.length).toNat) ++ Q := by
  obtain ⟨t, ht, rfl, e⟩ := h
  rw [e, show ((P.length : Int) + t - P.length).toNat = t by omega]; simp
/-! ### One on the right -/
def RiI (P : List α) (x : α) (A Q : List α) (k : Int) (W : List α) : Prop := ∃ t : Nat, t ≤ A.length ∧ k = P.length + t ∧ W = P ++ A.take t ++ x :: A.drop t ++ Q
theorem RiI.zero {P : List α} {x : α} {A Q W : List α} {k : Int} (h : W = P ++ A ++ [x] ++ Q) (hk : k = P.length + A.length) : RiI P x A Q k W := ⟨A.length, by omega, by omega, by simp [h]⟩
theorem RiI.step {P : List α} {x : α} {A Q W : List α} {k : Int} (h : RiI P x A Q k W) (hk : (P.length : Int) < k) (h1 : k.toNat < W.length) (h2 : k.toNat - 1 < W.length) : RiI P x A Q (k - 1) ((W.set k.toNat W[k.toNat - 1]).set (k.toNat - 1) W[k.toNat]) := by
  obtain ⟨t, ht, rfl, e⟩ := h
  obtain ⟨t, rfl⟩ : ∃ s, t = s + 1 := ⟨t - 1, by omega⟩
  have hW : W = (P ++ A.take t) ++ (A[t]'(by omega)) :: [] ++ x :: (A.drop (t + 1) ++ Q) := by
    rw [e, List.take_succ_eq_append_getElem (by omega)]; simp only [List.append_assoc, List.cons_append, List.nil_append, List.singleton_append]
  obtain ⟨_, _, f1, f2, _, f4⟩ := exch_eq hW (i := ((P.length : Int) + (t + 1 : Nat)).toNat - 1) (j := ((P.length : Int) + (t + 1 : Nat)).toNat) (by simp; omega) (by simp; omega)
  rw [f1, f2, f4]
  exact ⟨t, by omega, by omega, by rw [List.drop_eq_getElem_cons (l := A) (i := t) (by omega)]; simp only [List.append_assoc, List.cons_append, List.nil_append, List.singleton_append]⟩
theorem RiI.done {P : List α} {x : α} {A Q W : List α} {k : Int} (h : RiI P x A Q k W) : W = P ++ (A.take (k - P.length).toNat ++ x :: A.drop (k - P.length).toNat) ++ Q := LeI.done h
theorem two_at {us P A B Q : List α} (hu : us = P ++ A ++ B ++ Q) {i : Nat} (hi : i < A.length) : ∃ h : P.length + i < us.length, us[P.length + i] = A[i] :=
  part_at (P := P) (M := A) (Q := B ++ Q) (by rw [hu]; simp) hi rfl
theorem two_at' {us P A B Q : List α} (hu : us = P ++ A ++ B ++ Q) {i : Nat} (hi : i < B.length) : ∃ h : P.length + A.length + i < us.length, us[P.length + A.length + i] = B[i] :=
  part_at (P := P ++ A) (M := B) (Q := Q) hu hi (by simp)
theorem ltAt_BA {us P A B Q : List α} (hu : us = P ++ A ++ B ++ Q) {i j x y : Nat} (hi : i < B.length) (hj : j < A.length) (hx : x = P.length + A.length + i) (hy : y = P.length + j) : ltAt lt us x y = lt B[i] A[j] := by
  obtain ⟨h1, e1⟩ := two_at' hu hi
  obtain ⟨h2, e2⟩ := two_at hu hj
  subst hx hy
  rw [ltAt_eq h1 h2, e1, e2]
theorem fal_left {us P A B Q : List α} {T : Int → Bool} {a m b : Int} (hw : Wk lt) (hB : Srt lt B) (hu : us = P ++ A ++ B ++ Q) (ha : a = P.length) (hm : m = P.length + A.length) (hb : b = P.length + A.length + B.length) (hA : 0 < A.length) (hT : ∀ c, T c = ltAt lt us c.toNat a.toNat) : Fal T m b := fun c c' h1 h2 h3 h4 => by
  obtain ⟨i, rfl⟩ : ∃ i : Nat, c = P.length + A.length + i := ⟨(c - m).toNat, by omega⟩
  obtain ⟨j, rfl⟩ : ∃ i : Nat, c' = P.length + A.length + i := ⟨(c' - m).toNat, by omega⟩
  rw [hT, ltAt_BA hu (i := i) (j := 0) (by omega) hA (by omega) (by omega)] at h4
  rw [hT, ltAt_BA hu (i := j) (j := 0) (by omega) hA (by omega) (by omega)]
  exact hw.trans' (hB.get hw (i := j) (j := i) (by omega) (by omega)) h4
theorem fal_right {us P A B Q : List α} {T : Int → Bool} {a m : Int} (hw : Wk lt) (hA : Srt lt A) (hu : us = P ++ A ++ B ++ Q) (ha : a = P.length) (hm : m = P.length + A.length) (hB : 0 < B.length) (hT : ∀ c, T c = !ltAt lt us m.toNat c.toNat) : Fal T a m := fun c c' h1 h2 h3 h4 => by
  obtain ⟨i, rfl⟩ : ∃ i : Nat, c = P.length + i := ⟨(c - a).toNat, by omega⟩
  obtain ⟨j, rfl⟩ : ∃ i : Nat, c' = P.length + i := ⟨(c' - a).toNat, by omega⟩
  rw [hT, ltAt_BA hu (i := 0) (j := i) hB (by omega) (by omega) (by omega), Bool.not_eq_true'] at h4
  rw [hT, ltAt_BA hu (i := 0) (j := j) hB (by omega) (by omega) (by omega), Bool.not_eq_true']
  exact hw.neg _ _ _ (hA.get hw (i := j) (j := i) (by omega) (by omega)) h4
theorem fal_both {us P A B Q : List α} {T : Int → Bool} {a m b mid s0 r0 : Int} (hw : Wk lt) (hA : Srt lt A) (hB : Srt lt B) (hu : us = P ++ A ++ B ++ Q) (ha : a = P.length) (hm : m = P.length + A.length) (hb : b = P.length + A.length + B.length) (hT : ∀ c, T c = !ltAt lt us (mid + m - 1 - c).toNat c.toNat)
    (g1 : a ≤ s0) (g2 : r0 ≤ m) (g3 : r0 ≤ mid) (g4 : mid + m - s0 ≤ b) : Fal T s0 r0 := fun c c' h1 h2 h3 h4 => by
  obtain ⟨i, rfl⟩ : ∃ i : Nat, c = P.length + i := ⟨(c - a).toNat, by omega⟩
  obtain ⟨j, rfl⟩ : ∃ i : Nat, c' = P.length + i := ⟨(c' - a).toNat, by omega⟩
  have p1 := ltAt_BA (lt := lt) hu (i := (mid + m - 1 - (P.length + i) - m).toNat) (j := i) (x := (mid + m - 1 - (P.length + i)).toNat) (y := ((P.length : Int) + i).toNat) (by omega) (by omega) (by omega) (by omega)
  have p2 := ltAt_BA (lt := lt) hu (i := (mid + m - 1 - (P.length + j) - m).toNat) (j := j) (x := (mid + m - 1 - (P.length + j)).toNat) (y := ((P.length : Int) + j).toNat) (by omega) (by omega) (by omega) (by omega)
  rw [hT, p1, Bool.not_eq_true'] at h4
  rw [hT, p2, Bool.not_eq_true']
  exact hw.neg _ _ _ (hA.get hw (i := j) (j := i) (by omega) (by omega)) (hw.neg _ _ _ h4 (hB.get hw (i := (mid + m - 1 - (P.length + i) - m).toNat) (j := (mid + m - 1 - (P.length + j) - m).toNat) (by omega) (by omega)))
theorem merge_left {us P B Q W : List α} {x : α} {T : Int → Bool} {a m b i k : Int} (hB : Srt lt B) (hu : us = P ++ [x] ++ B ++ Q) (ha : a = P.length) (hm : m = P.length + 1) (hb : b = P.length + 1 + B.length) (hT : ∀ c, T c = ltAt lt us c.toNat a.toNat) (hs : Bis T m b i i) (hk : k = i - 1) (hW : LeI P x B Q k W) : W = P ++ mergeI lt [x] B ++ Q := by
  subst hk
  obtain ⟨g1, _, g2, g3, g4⟩ := hs
  have key : ∀ (j : Nat) (hj : j < B.length), T (P.length + 1 + j) = lt B[j] x := fun j hj => by
    rw [hT, ltAt_BA hu (i := j) (j := 0) hj (by simp) (by simp; omega) (by omega)]; rfl
  rw [hW.done, mergeI_single (i := (i - 1 - P.length).toNat) hB (fun j hj hji => ?_) (fun j hj hji => ?_) (by omega)]
  · rw [← key j hj]; exact g3 _ (by omega) (by omega)
  · rw [← key j hj]; exact g4 _ (by omega) (by omega)
theorem merge_right {us P A Q W : List α} {x : α} {T : Int → Bool} {a m i k : Int} (hu : us = P ++ A ++ [x] ++ Q) (ha : a = P.length) (hm : m = P.length + A.length) (hT : ∀ c, T c = !ltAt lt us m.toNat c.toNat) (hs : Bis T a m i i) (hk : k = i) (hW : RiI P x A Q k W) : W = P ++ mergeI lt A [x] ++ Q := by
  subst hk
  obtain ⟨g1, _, g2, g3, g4⟩ := hs
  have key : ∀ (j : Nat) (hj : j < A.length), T (P.length + j) = !lt x A[j] := fun j hj => by
    rw [hT, ltAt_BA hu (i := 0) (j := j) (by simp) hj (by simp; omega) (by omega)]; rfl
  rw [hW.done, mergeI_last (i := (k - P.length).toNat) (fun j hj hji => ?_) (fun j hj hji => ?_) (by omega)]
  · have := g3 (P.length + j) (by omega) (by omega)
    rwa [key j hj, Bool.not_eq_true'] at this
  · have := g4 (P.length + j) (by omega) (by omega)
    rwa [key j hj, Bool.not_eq_false'] at this
theorem sym_cut (hw : Wk lt) {us P A B Q : List α} {T : Int → Bool} {a m b mid s0 r0 s : Int} (hA : Srt lt A) (hB : Srt lt B) (hu : us = P ++ A ++ B ++ Q) (ha : a = P.length) (hm : m = P.length + A.length) (hb : b = P.length + A.length + B.length) (hT : ∀ c, T c = !ltAt lt us (mid + m - 1 - c).toNat c.toNat) (hs : Bis T s0 r0 s s)
    (g1 : a ≤ s0) (g2 : r0 ≤ m) (g3 : r0 ≤ mid) (g4 : mid + m - s0 ≤ b) (g5 : r0 = m ∨ r0 = mid) (g6 : s0 = a ∨ mid + m - s0 = b) :
    ∃ a1 a2 b1 b2, A = a1 ++ a2 ∧ B = b1 ++ b2 ∧ (a1.length : Int) = s - a ∧ (a2.length : Int) = m - s ∧ (b1.length : Int) = mid - s ∧ (b2.length : Int) = b - (mid + m - s) ∧ mergeI lt A B = mergeI lt a1 b1 ++ mergeI lt a2 b2 := by
  obtain ⟨f1, _, f2, f3, f4⟩ := hs
  obtain ⟨k, hk⟩ : ∃ k : Nat, (k : Int) = s - a := ⟨(s - a).toNat, by omega⟩
  obtain ⟨l, hl⟩ : ∃ l : Nat, (l : Int) = mid - s := ⟨(mid - s).toNat, by omega⟩
  have eA : A.take k ++ A.drop k = A := List.take_append_drop k A
  have eB : B.take l ++ B.drop l = B := List.take_append_drop l B
  refine ⟨A.take k, A.drop k, B.take l, B.drop l, eA.symm, eB.symm, by simp; omega, by simp; omega, by simp; omega, by simp; omega, ?_⟩
  conv => lhs; rw [← eA, ← eB]
  refine mergeI_parts (fun x hx y hy => ?_) (fun x hx y hy => ?_) fun x hx y hy => ?_
  · obtain ⟨i, hi, rfl⟩ := List.getElem_of_mem hx
    obtain ⟨j, hj, rfl⟩ := List.getElem_of_mem hy
    simp only [List.length_take, List.length_drop] at hi hj
    rw [List.getElem_take, List.getElem_drop]
    have := f4 s (by omega) (by omega)
    rw [hT, ltAt_BA hu (i := l - 1) (j := k) (by omega) (by omega) (by omega) (by omega), Bool.not_eq_false'] at this
    exact hw.trans (hw.trans' (hB.get hw (i := i) (j := l - 1) (by omega) (by omega)) this) (hA.get hw (i := k) (j := k + j) (by omega) (by omega))
  · obtain ⟨i, hi, rfl⟩ := List.getElem_of_mem hx
    obtain ⟨j, hj, rfl⟩ := List.getElem_of_mem hy
    simp only [List.length_take, List.length_drop] at hi hj
    rw [List.getElem_take, List.getElem_drop]
    have := f3 (s - 1) (by omega) (by omega)
    rw [hT, ltAt_BA hu (i := l) (j := k - 1) (by omega) (by omega) (by omega) (by omega), Bool.not_eq_true'] at this
    exact hw.neg _ _ _ (hw.neg _ _ _ (hA.get hw (i := j) (j := k - 1) (by omega) (by omega)) this) (hB.get hw (i := l) (j := l + i) (by omega) (by omega)) |> id
  · obtain ⟨i, hi, rfl⟩ := List.getElem_of_mem hx
    obtain ⟨j, hj, rfl⟩ := List.getElem_of_mem hy
    simp only [List.length_take, List.length_drop] at hi hj
    rw [List.getElem_take, List.getElem_drop]
    exact hB.get hw (i := j) (j := l + i) (by omega) (by omega)
theorem mergeI_nil (hw : Wk lt) : ∀ {b : List α}, Srt lt b → mergeI lt [] b = b := fun {b} hs => by
  have key : ∀ (l t : List α), Srt lt (t ++ l) → mergeI lt t l = t ++ l := fun l => by
    induction l with
    | nil => intro t _; simp [mergeI]
    | cons x l ih =>
      intro t ht
      have e : insR lt t x = t ++ [x] := by
        have := insR_all (lt := lt) (u := t) (v := []) (x := x) (fun y hy => (List.pairwise_append.1 ht).2.2 y hy x (by simp)) (by simp)
        simpa using this
      show mergeI lt (insR lt t x) l = _
      rw [e, ih (t ++ [x]) (by simpa using ht)]; simp
  exact key b [] (by simpa using hs)
theorem merge_none (hw : Wk lt) {a b : List α} (hb : Srt lt b) (h : a.length = 0 ∨ b.length = 0) : mergeI lt a b = a ++ b := by
  rcases h with h | h
  · have : a = [] := List.eq_nil_of_length_eq_zero h
    subst this; exact mergeI_nil hw hb
  · have : b = [] := List.eq_nil_of_length_eq_zero h
    subst this; simp [mergeI]
/-! ### The blocks -/
def blks (lt : α → α → Bool) (z : Nat) (us : List α) : List α := isort lt (us.take z) ++ (isort lt ((us.drop z).take z) ++ isort lt (us.drop (2 * z)))
theorem isort_nil : isort lt ([] : List α) = [] := rfl
theorem blks_all {us : List α} {z : Nat} (h : us.length ≤ z) : blks lt z us = isort lt us := by
  unfold blks
  rw [List.take_of_length_le h, List.drop_eq_nil_of_le h, List.drop_eq_nil_of_le (by omega)]; simp [isort_nil]
theorem blks_len {us : List α} {z : Nat} (h : us.length ≤ 3 * z) : (blks lt z us).length = us.length := by
  unfold blks
  simp only [List.length_append, isort_len, List.length_take, List.length_drop]; omega
/-- The next size, from two blocks merged. -/
theorem blks_two {us : List α} {z : Nat} (hw : Wk lt) (h : us.length ≤ 4 * z) : isort lt (us.take (2 * z)) ++ isort lt (us.drop (2 * z)) = blks lt (2 * z) us := by
  unfold blks
  rw [List.take_of_length_le (l := us.drop (2 * z)) (by simp; omega), List.drop_eq_nil_of_le (show us.length ≤ 2 * (2 * z) by omega)]; simp [isort_nil]
theorem take_two {us : List α} {z : Nat} : us.take z ++ (us.drop z).take z = us.take (2 * z) := by
  rw [show 2 * z = z + z by omega, List.take_add]
theorem blks_merge {us : List α} {z : Nat} (hw : Wk lt) : mergeI lt (isort lt (us.take z)) (isort lt ((us.drop z).take z)) = isort lt (us.take (2 * z)) := by
  rw [isort_app hw, take_two]
/-- The first blocks, put in order one after the other. -/
def BlI (lt : α → α → Bool) (us : List α) (a : Int) (W : List α) : Prop := (a = 0 ∧ W = us) ∨ (a = 20 ∧ 20 ≤ us.length ∧ W = isort lt (us.take 20) ++ us.drop 20) ∨ (a = 40 ∧ 40 ≤ us.length ∧ W = isort lt (us.take 20) ++ (isort lt ((us.drop 20).take 20) ++ us.drop 40))
theorem BlI.len {us W : List α} {a : Int} (h : BlI lt us a W) : W.length = us.length := by
  rcases h with ⟨_, rfl⟩ | ⟨_, _, rfl⟩ | ⟨_, _, rfl⟩
  · rfl
  · simp only [List.length_append, isort_len, List.length_take, List.length_drop]; omega
  · simp only [List.length_append, isort_len, List.length_take, List.length_drop]; omega
theorem BlI.le {us W : List α} {a : Int} (h : BlI lt us a W) : 0 ≤ a ∧ a ≤ us.length := by
  rcases h with ⟨rfl, _⟩ | ⟨rfl, _, _⟩ | ⟨rfl, _, _⟩ <;> omega
theorem cut_three (W : List α) {i j : Nat} (hij : i ≤ j) : W = W.take i ++ (W.take j).drop i ++ W.drop j := by
  conv => lhs; rw [← List.take_append_drop j W]
  congr 1
  have := List.take_append_drop i (W.take j)
  rw [List.take_take, Nat.min_eq_left hij] at this
  exact this.symm
theorem BlI.next {us W : List α} {a : Int} (h : BlI lt us a W) (ha : a + 20 ≤ us.length) (hl : us.length ≤ 48) : BlI lt us (a + 20) (W.take a.toNat ++ isort lt ((W.take (a + 20).toNat).drop a.toNat) ++ W.drop (a + 20).toNat) := by
  rcases h with ⟨rfl, rfl⟩ | ⟨rfl, h2, rfl⟩ | ⟨rfl, h2, rfl⟩
  · exact .inr (.inl ⟨by omega, by omega, by simp⟩)
  · refine .inr (.inr ⟨by omega, by omega, ?_⟩)
    have l1 : (isort lt (us.take 20)).length = 20 := by rw [isort_len, List.length_take]; omega
    show (isort lt (us.take 20) ++ us.drop 20).take 20 ++ isort lt (((isort lt (us.take 20) ++ us.drop 20).take 40).drop 20) ++ (isort lt (us.take 20) ++ us.drop 20).drop 40 = _
    have e1 : (isort lt (us.take 20) ++ us.drop 20).take 20 = isort lt (us.take 20) := by rw [List.take_append_of_le_length (by omega), List.take_of_length_le (by omega)]
    have e2 : ((isort lt (us.take 20) ++ us.drop 20).take 40).drop 20 = (us.drop 20).take 20 := by
      rw [List.drop_take, List.drop_append_of_le_length (by omega), List.drop_eq_nil_of_le (by omega)]; rfl
    have e3 : (isort lt (us.take 20) ++ us.drop 20).drop 40 = us.drop 40 := by
      rw [List.drop_append, List.drop_eq_nil_of_le (by omega), l1, List.drop_drop]; rfl
    rw [e1, e2, e3, List.append_assoc]
  · omega
theorem BlI.done {us W : List α} {a : Int} (h : BlI lt us a W) (ha : (us.length : Int) < a + 20) : W.take a.toNat ++ isort lt ((W.take us.length).drop a.toNat) ++ W.drop us.length = blks lt 20 us := by
  have hl := h.len
  rw [List.drop_eq_nil_of_le (show W.length ≤ us.length by omega), List.take_of_length_le (l := W) (i := us.length) (by omega), List.append_nil]
  rcases h with ⟨rfl, rfl⟩ | ⟨rfl, h2, rfl⟩ | ⟨rfl, h2, rfl⟩
  · rw [blks_all (by omega)]; simp
  · have l1 : (isort lt (us.take 20)).length = 20 := by rw [isort_len, List.length_take]; omega
    show (isort lt (us.take 20) ++ us.drop 20).take 20 ++ isort lt ((isort lt (us.take 20) ++ us.drop 20).drop 20) = _
    rw [List.take_append_of_le_length (by omega), List.take_of_length_le (by omega), List.drop_append_of_le_length (by omega), List.drop_eq_nil_of_le (show (isort lt (us.take 20)).length ≤ 20 by omega), List.nil_append]
    unfold blks
    rw [List.take_of_length_le (l := us.drop 20) (by simp; omega), List.drop_eq_nil_of_le (show us.length ≤ 2 * 20 by omega)]; simp [isort_nil]
  · have l1 : (isort lt (us.take 20)).length = 20 := by rw [isort_len, List.length_take]; omega
    have l2 : (isort lt ((us.drop 20).take 20)).length = 20 := by rw [isort_len, List.length_take, List.length_drop]; omega
    show (isort lt (us.take 20) ++ (isort lt ((us.drop 20).take 20) ++ us.drop 40)).take 40 ++ isort lt ((isort lt (us.take 20) ++ (isort lt ((us.drop 20).take 20) ++ us.drop 40)).drop 40) = _
    have l3 : (isort lt (us.take 20) ++ isort lt ((us.drop 20).take 20)).length = 40 := by rw [List.length_append, l1, l2]
    have e0 : isort lt (us.take 20) ++ (isort lt ((us.drop 20).take 20) ++ us.drop 40) = (isort lt (us.take 20) ++ isort lt ((us.drop 20).take 20)) ++ us.drop 40 := by simp only [List.append_assoc]
    unfold blks
    rw [e0, ← List.append_assoc]
    generalize isort lt (us.take 20) ++ isort lt ((us.drop 20).take 20) = V at l3
    rw [List.take_append_of_le_length (by omega), List.take_of_length_le (by omega), List.drop_append_of_le_length (by omega), List.drop_eq_nil_of_le (show V.length ≤ 40 by omega), List.nil_append]
theorem no_rot {P a1 a2 b1 b2 Q : List α} (h : a2.length = 0 ∨ b1.length = 0) : P ++ (a1 ++ a2) ++ (b1 ++ b2) ++ Q = P ++ a1 ++ b1 ++ (a2 ++ (b2 ++ Q)) := by
  rcases h with h | h
  · have : a2 = [] := List.eq_nil_of_length_eq_zero h
    subst this; simp
  · have : b1 = [] := List.eq_nil_of_length_eq_zero h
    subst this; simp
theorem sym_none {P a b a2 b2 Q : List α} (hw : Wk lt) (hb : Srt lt b) (h : a.length = 0 ∨ b.length = 0) : P ++ a ++ b ++ (a2 ++ (b2 ++ Q)) = P ++ mergeI lt a b ++ a2 ++ b2 ++ Q := by rw [merge_none hw hb h]; simp
theorem sym_none2 {P a b Q : List α} (hw : Wk lt) (hb : Srt lt b) (h : a.length = 0 ∨ b.length = 0) : P ++ a ++ b ++ Q = P ++ mergeI lt a b ++ Q := by rw [merge_none hw hb h]; simp
end
end Go.Proofs.YtibhoanjglfaoaaGreat

/- Ranges exchanged, rotated, put in order (printed by walk.py) -/
namespace Go.Proofs.YtibhoanjglfaoaaGreat
open Go.RowKit
set_option linter.unusedVariables false
set_option linter.unusedSimpArgs false
set_option maxRecDepth 100000

set_option maxHeartbeats 4000000 in
theorem cmpC_c (x y : Changet) : AC Tryz.prog 56 [.agg (changeC x), .agg (changeC y)] [] (.one (.c (.int .i64 (cmpC x y)))) [] := by
  refine AC_body1 Tryz.func56 rfl rfl Tryz.ntmps56 rfl Tryz.results56 ?_
  refine AW_seq ?_
  refine AW_region ?_
  refine AL_p (x_box 100 rfl rfl rfl rfl rfl rfl rfl) ?_
  refine AL_p (x_box 101 rfl rfl rfl rfl rfl rfl rfl) ?_
  refine AL_p (x_assign rfl rfl) ?_
  refine AL_nil ?_
  refine AW_seq ?_
  refine AW_block ?_
  refine AW_seq ?_
  refine AW_region ?_
  refine AL_p (x_field (off := 0) (o' := 0) rfl rfl rfl (by kernel_rfl) rfl) ?_
  refine AL_p (x_load1 rfl rfl rfl (by kernel_rfl) rfl) ?_
  refine AL_p (x_field (off := 0) (o' := 0) rfl rfl rfl (by kernel_rfl) rfl) ?_
  refine AL_p (x_load1 rfl rfl rfl (by kernel_rfl) rfl) ?_
  refine AL_b (x_slss rfl rfl rfl) (fun b10 h10 => ?_)
  refine AL_p (x_assign rfl rfl) ?_
  refine AL_nil ?_
  cases b10
  rotate_left
  · try simp only [tdy] at h10
    refine AW_condT rfl ?_
    refine AW_seq ?_
    refine AW_region ?_
    refine AL_p (x_assign rfl rfl) ?_
    refine AL_nil ?_
    refine AW_ret (BQ_ret ?_)
    exact ⟨rn [], ⟨⟨⟨_, rfl, vle_int (by first | exact (cmpC_lt h10).symm | exact (cmpC_gt' h10 h16).symm | exact (cmpC_eq' h10 h16).symm)⟩, trivial⟩, trivial, trivial, rfl⟩⟩
  try simp only [tdy] at h10
  refine AW_condF rfl ?_
  refine AW_seq ?_
  refine AW_region ?_
  refine AL_p (x_field (off := 0) (o' := 0) rfl rfl rfl (by kernel_rfl) rfl) ?_
  refine AL_p (x_load1 rfl rfl rfl (by kernel_rfl) rfl) ?_
  refine AL_p (x_field (off := 0) (o' := 0) rfl rfl rfl (by kernel_rfl) rfl) ?_
  refine AL_p (x_load1 rfl rfl rfl (by kernel_rfl) rfl) ?_
  refine AL_b (x_sgtr rfl rfl rfl) (fun b16 h16 => ?_)
  refine AL_p (x_assign rfl rfl) ?_
  refine AL_nil ?_
  cases b16
  rotate_left
  · try simp only [tdy] at h16
    refine AW_condT rfl ?_
    refine AW_seq ?_
    refine AW_region ?_
    refine AL_p (x_assign rfl rfl) ?_
    refine AL_nil ?_
    refine AW_ret (BQ_ret ?_)
    exact ⟨rn [], ⟨⟨⟨_, rfl, vle_int (by first | exact (cmpC_lt h10).symm | exact (cmpC_gt' h10 h16).symm | exact (cmpC_eq' h10 h16).symm)⟩, trivial⟩, trivial, trivial, rfl⟩⟩
  try simp only [tdy] at h16
  refine AW_condF rfl ?_
  refine AW_skip ?_
  refine AW_seq ?_
  refine AW_region ?_
  refine AL_p (x_assign rfl rfl) ?_
  refine AL_nil ?_
  refine AW_ret ?_
  exact ⟨rn [], ⟨⟨⟨_, rfl, vle_int (by first | exact (cmpC_lt h10).symm | exact (cmpC_gt' h10 h16).symm | exact (cmpC_eq' h10 h16).symm)⟩, trivial⟩, trivial, trivial, rfl⟩⟩

set_option maxHeartbeats 4000000 in
theorem sameC_c (x y : Changet) : AC Tryz.prog 58 [.agg (changeC x), .agg (changeC y)] [] (.one (.c (.bool (x.name == y.name)))) [] := by
  refine AC_body1 Tryz.func58 rfl rfl Tryz.ntmps58 rfl Tryz.results58 ?_
  refine AW_seq ?_
  refine AW_region ?_
  refine AL_p (x_box 100 rfl rfl rfl rfl rfl rfl rfl) ?_
  refine AL_p (x_box 101 rfl rfl rfl rfl rfl rfl rfl) ?_
  refine AL_p (x_assign rfl rfl) ?_
  refine AL_nil ?_
  refine AW_seq ?_
  refine AW_region ?_
  refine AL_p (x_field (off := 0) (o' := 0) rfl rfl rfl (by kernel_rfl) rfl) ?_
  refine AL_p (x_load1 rfl rfl rfl (by kernel_rfl) rfl) ?_
  refine AL_p (x_field (off := 0) (o' := 0) rfl rfl rfl (by kernel_rfl) rfl) ?_
  refine AL_p (x_load1 rfl rfl rfl (by kernel_rfl) rfl) ?_
  refine AL_b (x_seql rfl rfl rfl) (fun b9 h9 => ?_)
  refine AL_p (x_assign rfl rfl) ?_
  refine AL_nil ?_
  refine AW_ret ?_
  cases b9
  rotate_left
  · try simp only [tdy] at h9
    exact ⟨rn [], ⟨⟨⟨_, rfl, vle_bool (by first | exact (rfl).symm | exact (h9.symm).symm | (simp [*]))⟩, trivial⟩, trivial, trivial, rfl⟩⟩
  try simp only [tdy] at h9
  exact ⟨rn [], ⟨⟨⟨_, rfl, vle_bool (by first | exact (rfl).symm | exact (h9.symm).symm | (simp [*]))⟩, trivial⟩, trivial, trivial, rfl⟩⟩

set_option maxHeartbeats 4000000 in
theorem swapR_c (us : List Changet) (a b n : Int) (P X M Y Q : List Changet) (hu : us = P ++ X ++ M ++ Y ++ Q) (ha : a = P.length) (hb : b = P.length + X.length + M.length) (hn : n = X.length) (hxy : X.length = Y.length) (hl : us.length ≤ 1048576) : AC Tryz.prog 178 [.one (.own 0), .one (.c (.int .i64 (a))), .one (.c (.int .i64 (b))), .one (.c (.int .i64 (n))), .one (.clo 56 [])] [(0, some (.arr 65 changeE us false))] (.tup []) [(0, some (.arr 65 changeE (P ++ Y ++ M ++ X ++ Q) false))] := by
  have hul : us.length = P.length + X.length + M.length + Y.length + Q.length := by subst hu; simp only [List.length_append]
  refine AC_body0 Tryz.func178 rfl rfl Tryz.ntmps178 rfl Tryz.results178 ?_
  refine AW_seq ?_
  refine AW_region ?_
  refine AL_p (x_assign rfl rfl) ?_
  refine AL_nil ?_
  refine AW_block ?_
  refine AW_loop2 (ι := {q : Nat × List Changet // (q.1) ≤ X.length ∧ ((q.2).length = us.length ∧ SwI P X M Y Q (q.1) (q.2))}) (fun p => [(10, .one (.c (.int .i64 (((p.1.1) : Int)))))]) (fun p => [(0, some (.arr 65 changeE (p.1.2) false))]) [0, 1, 2, 3] [] (fun p => X.length - (p.1.1)) ⟨⟨0, us⟩, ⟨by omega, rfl, .zero hu⟩⟩ (rn []) ?_ ?_
  exact ⟨by (repeat refine ⟨⟨_, rfl, by first | exact VLe.rf | exact vle_int (by dsimp only; omega)⟩, ?_⟩); exact trivial, by (repeat refine ⟨⟨_, rfl, by first | exact BLe.rf | exact BLe.box AllC.rf | exact BLe.arr (by exact rfl)⟩, ?_⟩); exact trivial, by repeat (first | exact trivial | refine ⟨⟨rfl, by first | (left; intro h; cases h) | (right; rfl), by first | exact (fun _ h => ⟨_, h⟩) | exact (fun _ _ => ⟨_, rfl⟩) | (intro _ h; cases h)⟩, ?_⟩), rfl⟩
  rintro ⟨⟨i, W⟩, hinv⟩
  dsimp only
  obtain ⟨hi, hwl, hs⟩ := hinv
  have hi : i ≤ X.length := hi
  have hwl : W.length = us.length := hwl
  refine AW_seq ?_
  refine AW_seq ?_
  refine AW_region ?_
  refine AL_p (x_move rfl rfl) ?_
  refine AL_p (x_move rfl rfl) ?_
  refine AL_b (x_lss rfl rfl rfl) (fun b13 h13 => ?_)
  refine AL_nil ?_
  cases b13
  · try simp only [tdy] at h13
    refine AW_condF rfl ?_
    refine AW_exit (BQ_hit ?_)
    exact ⟨rn [], ⟨trivial, ⟨⟨_, rfl, BLe.arr (hs.done hxy (by omega))⟩, trivial⟩, by repeat (first | exact trivial | refine ⟨⟨rfl, by first | (left; intro h; cases h) | (right; rfl), by first | exact (fun _ h => ⟨_, h⟩) | exact (fun _ _ => ⟨_, rfl⟩) | (intro _ h; cases h)⟩, ?_⟩), rfl⟩⟩
  try simp only [tdy] at h13
  refine AW_condT rfl ?_
  refine AW_skip ?_
  refine AW_seq ?_
  refine AW_block ?_
  refine AW_draw rfl ?_
  refine AL_p (x_move rfl rfl) ?_
  refine AL_p (x_move rfl rfl) ?_
  refine AL_p (x_move rfl rfl) ?_
  refine AL_p (x_add rfl rfl rfl (IntWalk.i64_in _ (by omega))) ?_
  refine AL_p (x_move rfl rfl) ?_
  refine AL_p (x_move rfl rfl) ?_
  refine AL_p (x_move rfl rfl) ?_
  refine AL_p (x_add rfl rfl rfl (IntWalk.i64_in _ (by omega))) ?_
  refine AL_p (x_move rfl rfl) ?_
  refine AL_p (x_move rfl rfl) ?_
  refine AL_p (x_move rfl rfl) ?_
  refine AL_p (x_add rfl rfl rfl (IntWalk.i64_in _ (by omega))) ?_
  refine AL_p (x_oindex (n := 5) rfl rfl rfl rfl (by kernel_rfl) rfl (k := b.toNat + i) (by omega) (by omega)) ?_
  refine AL_p (x_oloadN (n := 5) rfl rfl rfl (by kernel_rfl) (by omega) rfl rfl) ?_
  refine AL_p (x_move rfl rfl) ?_
  refine AL_p (x_move rfl rfl) ?_
  refine AL_p (x_move rfl rfl) ?_
  refine AL_p (x_add rfl rfl rfl (IntWalk.i64_in _ (by omega))) ?_
  refine AL_p (x_oindex (n := 5) rfl rfl rfl rfl (by kernel_rfl) rfl (k := a.toNat + i) (by omega) (by omega)) ?_
  refine AL_p (x_oloadN (n := 5) rfl rfl rfl (by kernel_rfl) (by omega) rfl rfl) ?_
  refine AL_p (x_oindex (n := 5) rfl rfl rfl rfl (by kernel_rfl) rfl (k := a.toNat + i) (by omega) (by omega)) ?_
  refine AL_p (x_ostore (W[b.toNat + i]'(by omega)) rfl rfl rfl rfl (by kernel_rfl) rfl rfl rfl rfl FitL.rf rfl rfl (by first | omega | (rw [filledTo_len (by omega)]; omega) | (simp; omega))) ?_
  refine AL_p (x_oindex (n := 5) rfl rfl rfl rfl (by kernel_rfl) rfl (k := b.toNat + i) (by omega) (by first | omega | (simp only [List.length_set]; omega))) ?_
  refine AL_p (x_ostore (W[a.toNat + i]'(by omega)) rfl rfl rfl rfl (by kernel_rfl) rfl rfl rfl rfl FitL.rf rfl rfl (by first | omega | (simp only [List.length_set]; omega))) ?_
  refine AL_nild (by kernel_rfl) ?_
  refine AW_region ?_
  refine AL_p (x_move rfl rfl) ?_
  refine AL_p (x_add rfl rfl rfl (IntWalk.i64_in _ (by omega))) ?_
  refine AL_p (x_assign rfl rfl) ?_
  refine AL_nil ?_
  refine ⟨⟨⟨i + 1, ((W.set (a.toNat + i) (W[b.toNat + i]'(by omega))).set (b.toNat + i) (W[a.toNat + i]'(by omega)))⟩, ⟨by omega, by simp only [List.length_set]; omega, hs.step hxy (by omega) (by omega) (by omega) (by omega) (by omega)⟩⟩, rn [], ?_, by dsimp only; omega⟩
  exact ⟨by (repeat refine ⟨⟨_, rfl, by first | exact VLe.rf | exact vle_int (by dsimp only; omega)⟩, ?_⟩); exact trivial, by (repeat refine ⟨⟨_, rfl, by first | exact BLe.rf | exact BLe.box AllC.rf | exact BLe.arr (by exact rfl)⟩, ?_⟩); exact trivial, by repeat (first | exact trivial | refine ⟨⟨rfl, by first | (left; intro h; cases h) | (right; rfl), by first | exact (fun _ h => ⟨_, h⟩) | exact (fun _ _ => ⟨_, rfl⟩) | (intro _ h; cases h)⟩, ?_⟩), rfl⟩

set_option maxHeartbeats 4000000 in
theorem rot_c (us : List Changet) (a m b : Int) (P X Y Q : List Changet) (hu : us = P ++ X ++ Y ++ Q) (ha : a = P.length) (hm : m = P.length + X.length) (hb : b = P.length + X.length + Y.length) (hx : 0 < X.length) (hy : 0 < Y.length) (hl : us.length ≤ 1048576) : AC Tryz.prog 160 [.one (.own 0), .one (.c (.int .i64 (a))), .one (.c (.int .i64 (m))), .one (.c (.int .i64 (b))), .one (.clo 56 [])] [(0, some (.arr 65 changeE us false))] (.tup []) [(0, some (.arr 65 changeE (P ++ Y ++ X ++ Q) false))] := by
  have hul : us.length = P.length + X.length + Y.length + Q.length := by subst hu; simp only [List.length_append]
  refine AC_body0 Tryz.func160 rfl rfl Tryz.ntmps160 rfl Tryz.results160 ?_
  refine AW_seq ?_
  refine AW_region ?_
  refine AL_p (x_move rfl rfl) ?_
  refine AL_p (x_move rfl rfl) ?_
  refine AL_p (x_sub rfl rfl rfl (IntWalk.i64_in _ (by omega))) ?_
  refine AL_p (x_assign rfl rfl) ?_
  refine AL_nil ?_
  refine AW_seq ?_
  refine AW_region ?_
  refine AL_p (x_move rfl rfl) ?_
  refine AL_p (x_move rfl rfl) ?_
  refine AL_p (x_sub rfl rfl rfl (IntWalk.i64_in _ (by omega))) ?_
  refine AL_p (x_assign rfl rfl) ?_
  refine AL_nil ?_
  refine AW_seq ?_
  refine AW_block ?_
  refine AW_loop2 (ι := {q : Int × Int × List Changet // (0 < (q.1) ∧ 0 < (q.2.1)) ∧ ((q.2.2).length = us.length ∧ RoI (P ++ Y ++ X ++ Q) m (q.1) (q.2.1) (q.2.2))}) (fun p => [(10, .one (.c (.int .i64 ((p.1.1))))), (11, .one (.c (.int .i64 ((p.1.2.1)))))]) (fun p => [(0, some (.arr 65 changeE (p.1.2.2) false))]) [0, 2, 4] [] (fun p => ((p.1.1) + (p.1.2.1)).toNat) ⟨⟨m - a, b - m, us⟩, ⟨⟨by dsimp only; omega, by dsimp only; omega⟩, rfl, ⟨P, X, Y, Q, hu, by dsimp only; omega, by dsimp only; omega, by dsimp only; omega, rfl⟩⟩⟩ (rn []) ?_ ?_
  exact ⟨by (repeat refine ⟨⟨_, rfl, by first | exact VLe.rf | exact vle_int (by dsimp only; omega)⟩, ?_⟩); exact trivial, by (repeat refine ⟨⟨_, rfl, by first | exact BLe.rf | exact BLe.box AllC.rf | exact BLe.arr (by exact rfl)⟩, ?_⟩); exact trivial, by repeat (first | exact trivial | refine ⟨⟨rfl, by first | (left; intro h; cases h) | (right; rfl), by first | exact (fun _ h => ⟨_, h⟩) | exact (fun _ _ => ⟨_, rfl⟩) | (intro _ h; cases h)⟩, ?_⟩), rfl⟩
  rintro ⟨⟨i, j, W⟩, hinv⟩
  dsimp only
  obtain ⟨⟨hi, hj⟩, hwl, P', X', Y', Q', e1, e2, e3, e4, e5⟩ := hinv
  dsimp only at hi hj hwl e1 e2 e3 e4 e5
  have hwl2 : W.length = P'.length + X'.length + Y'.length + Q'.length := by rw [e1]; simp only [List.length_append]
  refine AW_seq ?_
  refine AW_seq ?_
  refine AW_region ?_
  refine AL_p (x_move rfl rfl) ?_
  refine AL_p (x_move rfl rfl) ?_
  refine AL_b (x_neq rfl rfl rfl) (fun b20 h20 => ?_)
  refine AL_nil ?_
  cases b20
  · try simp only [tdy] at h20
    refine AW_condF rfl ?_
    refine AW_exit (BQ_hit ?_)
    refine AW_region ?_
    refine AL_p (x_move rfl rfl) ?_
    refine AL_p (x_move rfl rfl) ?_
    refine AL_p (x_move rfl rfl) ?_
    refine AL_p (x_sub rfl rfl rfl (IntWalk.i64_in _ (by omega))) ?_
    refine AL_p (x_move rfl rfl) ?_
    refine AL_p (x_move rfl rfl) ?_
    refine AL_p (x_move rfl rfl) ?_
    refine AL_p (x_call (ks := []) (L := [(0, some _)]) (L' := [(0, some _)]) rfl rfl rfl (swapR_c W (m - i) m i P' X' [] Y' Q' (by rw [e1]; simp) (by omega) (by simp; omega) (by omega) (by omega) (by omega)) rfl AllV.rf (caught_of rfl) rfl rfl rfl ⟨rfl, trivial⟩ rfl) ?_
    refine AL_nil ?_
    exact ⟨rn [], ⟨trivial, ⟨⟨_, rfl, BLe.arr (by rw [← e5]; simp)⟩, trivial⟩, by repeat (first | exact trivial | refine ⟨⟨rfl, by first | (left; intro h; cases h) | (right; rfl), by first | exact (fun _ h => ⟨_, h⟩) | exact (fun _ _ => ⟨_, rfl⟩) | (intro _ h; cases h)⟩, ?_⟩), rfl⟩⟩
  try simp only [tdy] at h20
  refine AW_condT rfl ?_
  refine AW_skip ?_
  refine AW_block ?_
  refine AW_seq ?_
  refine AW_region ?_
  refine AL_p (x_move rfl rfl) ?_
  refine AL_p (x_move rfl rfl) ?_
  refine AL_b (x_gtr rfl rfl rfl) (fun b23 h23 => ?_)
  refine AL_nil ?_
  cases b23
  rotate_left
  · try simp only [tdy] at h23
    refine AW_condT rfl ?_
    refine AW_seq ?_
    refine AW_region ?_
    refine AL_p (x_move rfl rfl) ?_
    refine AL_p (x_move rfl rfl) ?_
    refine AL_p (x_move rfl rfl) ?_
    refine AL_p (x_sub rfl rfl rfl (IntWalk.i64_in _ (by omega))) ?_
    refine AL_p (x_move rfl rfl) ?_
    refine AL_p (x_move rfl rfl) ?_
    refine AL_p (x_move rfl rfl) ?_
    refine AL_p (x_call (ks := []) (L := [(0, some _)]) (L' := [(0, some _)]) rfl rfl rfl (swapR_c W (m - i) m j P' (X'.take j.toNat) (X'.drop j.toNat) Y' Q' (e1.trans (cut_left _ _ _ _)) (by omega) (by simp; omega) (by simp; omega) (by simp; omega) (by omega)) rfl AllV.rf (caught_of rfl) rfl rfl rfl ⟨rfl, trivial⟩ rfl) ?_
    refine AL_nil ?_
    refine AW_region ?_
    refine AL_p (x_move rfl rfl) ?_
    refine AL_p (x_move rfl rfl) ?_
    refine AL_p (x_sub rfl rfl rfl (IntWalk.i64_in _ (by omega))) ?_
    refine AL_p (x_assign rfl rfl) ?_
    refine AL_nil ?_
    refine ⟨⟨⟨i - j, j, (P' ++ Y' ++ X'.drop j.toNat ++ X'.take j.toNat ++ Q')⟩, ⟨⟨by dsimp only; omega, by dsimp only; omega⟩, by dsimp only; simp; omega, RoI.left (W := W) (by omega) e2 e3 e4 e5⟩⟩, rn [], ?_, by dsimp only; omega⟩
    exact ⟨by (repeat refine ⟨⟨_, rfl, by first | exact VLe.rf | exact vle_int (by dsimp only; omega)⟩, ?_⟩); exact trivial, by (repeat refine ⟨⟨_, rfl, by first | exact BLe.rf | exact BLe.box AllC.rf | exact BLe.arr (by exact rfl)⟩, ?_⟩); exact trivial, by repeat (first | exact trivial | refine ⟨⟨rfl, by first | (left; intro h; cases h) | (right; rfl), by first | exact (fun _ h => ⟨_, h⟩) | exact (fun _ _ => ⟨_, rfl⟩) | (intro _ h; cases h)⟩, ?_⟩), rfl⟩
  try simp only [tdy] at h23
  refine AW_condF rfl ?_
  refine AW_seq ?_
  refine AW_region ?_
  refine AL_p (x_move rfl rfl) ?_
  refine AL_p (x_move rfl rfl) ?_
  refine AL_p (x_move rfl rfl) ?_
  refine AL_p (x_sub rfl rfl rfl (IntWalk.i64_in _ (by omega))) ?_
  refine AL_p (x_move rfl rfl) ?_
  refine AL_p (x_move rfl rfl) ?_
  refine AL_p (x_add rfl rfl rfl (IntWalk.i64_in _ (by omega))) ?_
  refine AL_p (x_move rfl rfl) ?_
  refine AL_p (x_sub rfl rfl rfl (IntWalk.i64_in _ (by omega))) ?_
  refine AL_p (x_move rfl rfl) ?_
  refine AL_p (x_move rfl rfl) ?_
  refine AL_p (x_call (ks := []) (L := [(0, some _)]) (L' := [(0, some _)]) rfl rfl rfl (swapR_c W (m - i) (m + j - i) i P' X' (Y'.take (j - i).toNat) (Y'.drop (j - i).toNat) Q' (e1.trans (cut_right _ _ _ _)) (by omega) (by simp; omega) (by omega) (by simp; omega) (by omega)) rfl AllV.rf (caught_of rfl) rfl rfl rfl ⟨rfl, trivial⟩ rfl) ?_
  refine AL_nil ?_
  refine AW_region ?_
  refine AL_p (x_move rfl rfl) ?_
  refine AL_p (x_move rfl rfl) ?_
  refine AL_p (x_sub rfl rfl rfl (IntWalk.i64_in _ (by omega))) ?_
  refine AL_p (x_assign rfl rfl) ?_
  refine AL_nil ?_
  refine ⟨⟨⟨i, j - i, (P' ++ Y'.drop (j - i).toNat ++ Y'.take (j - i).toNat ++ X' ++ Q')⟩, ⟨⟨by dsimp only; omega, by dsimp only; omega⟩, by dsimp only; simp; omega, RoI.right (W := W) (by omega) e2 e3 e4 e5⟩⟩, rn [], ?_, by dsimp only; omega⟩
  exact ⟨by (repeat refine ⟨⟨_, rfl, by first | exact VLe.rf | exact vle_int (by dsimp only; omega)⟩, ?_⟩); exact trivial, by (repeat refine ⟨⟨_, rfl, by first | exact BLe.rf | exact BLe.box AllC.rf | exact BLe.arr (by exact rfl)⟩, ?_⟩); exact trivial, by repeat (first | exact trivial | refine ⟨⟨rfl, by first | (left; intro h; cases h) | (right; rfl), by first | exact (fun _ h => ⟨_, h⟩) | exact (fun _ _ => ⟨_, rfl⟩) | (intro _ h; cases h)⟩, ?_⟩), rfl⟩

set_option maxHeartbeats 4000000 in
theorem insS_c (us : List Changet) (a b : Int) (P M Q : List Changet) (hu : us = P ++ M ++ Q) (ha : a = P.length) (hb : b = P.length + M.length) (hl : us.length ≤ 1048576) : AC Tryz.prog 133 [.one (.own 0), .one (.c (.int .i64 (a))), .one (.c (.int .i64 (b))), .one (.clo 56 [])] [(0, some (.arr 65 changeE us false))] (.tup []) [(0, some (.arr 65 changeE (P ++ isort ltC M ++ Q) false))] := by
  have hul : us.length = P.length + M.length + Q.length := by subst hu; simp only [List.length_append]
  refine AC_body0 Tryz.func133 rfl rfl Tryz.ntmps133 rfl Tryz.results133 ?_
  refine AW_seq ?_
  refine AW_region ?_
  refine AL_p (x_move rfl rfl) ?_
  refine AL_p (x_add rfl rfl rfl (IntWalk.i64_in _ (by omega))) ?_
  refine AL_p (x_assign rfl rfl) ?_
  refine AL_nil ?_
  refine AW_block ?_
  refine AW_loop2 (ι := {q : Int × List Changet // (q.2).length = us.length ∧ OuI ltC P M Q a (q.1) (q.2)}) (fun p => [(8, .one (.c (.int .i64 ((p.1.1)))))]) (fun p => [(0, some (.arr 65 changeE (p.1.2) false))]) [0, 1, 2, 3] [] (fun p => (b - (p.1.1)).toNat) ⟨⟨a + 1, us⟩, ⟨rfl, .zero hu⟩⟩ (rn []) ?_ ?_
  exact ⟨by (repeat refine ⟨⟨_, rfl, by first | exact VLe.rf | exact vle_int (by dsimp only; omega)⟩, ?_⟩); exact trivial, by (repeat refine ⟨⟨_, rfl, by first | exact BLe.rf | exact BLe.box AllC.rf | exact BLe.arr (by exact rfl)⟩, ?_⟩); exact trivial, by repeat (first | exact trivial | refine ⟨⟨rfl, by first | (left; intro h; cases h) | (right; rfl), by first | exact (fun _ h => ⟨_, h⟩) | exact (fun _ _ => ⟨_, rfl⟩) | (intro _ h; cases h)⟩, ?_⟩), rfl⟩
  rintro ⟨⟨i, W⟩, hinv⟩
  dsimp only
  obtain ⟨hwl, hs⟩ := hinv
  have hwl : W.length = us.length := hwl
  have hs : OuI ltC P M Q a i W := hs
  have hs1 := hs.1
  have hs2 := hs.2.1
  refine AW_seq ?_
  refine AW_seq ?_
  refine AW_region ?_
  refine AL_p (x_move rfl rfl) ?_
  refine AL_p (x_move rfl rfl) ?_
  refine AL_b (x_lss rfl rfl rfl) (fun b14 h14 => ?_)
  refine AL_nil ?_
  cases b14
  · try simp only [tdy] at h14
    refine AW_condF rfl ?_
    refine AW_exit (BQ_hit ?_)
    exact ⟨rn [], ⟨trivial, ⟨⟨_, rfl, BLe.arr (hs.done (by omega))⟩, trivial⟩, by repeat (first | exact trivial | refine ⟨⟨rfl, by first | (left; intro h; cases h) | (right; rfl), by first | exact (fun _ h => ⟨_, h⟩) | exact (fun _ _ => ⟨_, rfl⟩) | (intro _ h; cases h)⟩, ?_⟩), rfl⟩⟩
  try simp only [tdy] at h14
  have hk : (i - a).toNat < M.length := by omega
  have hin := hs.inn ha (by omega) hk
  refine AW_condT rfl ?_
  refine AW_skip ?_
  refine AW_seq ?_
  refine AW_block ?_
  refine AW_seq ?_
  refine AW_region ?_
  refine AL_p (x_move rfl rfl) ?_
  refine AL_p (x_assign rfl rfl) ?_
  refine AL_nil ?_
  refine AW_block ?_
  refine AW_loop2 (ι := {q : Int × List Changet // (a ≤ (q.1) ∧ (q.1) ≤ i) ∧ ((q.2).length = us.length ∧ InI ltC P (isort ltC (M.take (i - a).toNat)) (M[(i - a).toNat]'hk) (M.drop ((i - a).toNat + 1) ++ Q) (q.1) (q.2))}) (fun p => [(9, .one (.c (.int .i64 ((p.1.1)))))]) (fun p => [(0, some (.arr 65 changeE (p.1.2) false))]) [0, 1, 2, 3, 8] [] (fun p => ((p.1.1) - a).toNat) ⟨⟨i, W⟩, ⟨⟨by dsimp only; omega, by dsimp only; omega⟩, hwl, hin⟩⟩ (rn []) ?_ ?_
  exact ⟨by (repeat refine ⟨⟨_, rfl, by first | exact VLe.rf | exact vle_int (by dsimp only; omega)⟩, ?_⟩); exact trivial, by (repeat refine ⟨⟨_, rfl, by first | exact BLe.rf | exact BLe.box AllC.rf | exact BLe.arr (by exact rfl)⟩, ?_⟩); exact trivial, by repeat (first | exact trivial | refine ⟨⟨rfl, by first | (left; intro h; cases h) | (right; rfl), by first | exact (fun _ h => ⟨_, h⟩) | exact (fun _ _ => ⟨_, rfl⟩) | (intro _ h; cases h)⟩, ?_⟩), rfl⟩
  rintro ⟨⟨j, V⟩, hinv⟩
  dsimp only
  obtain ⟨⟨hj0, hj1⟩, hj2, hj3⟩ := hinv
  dsimp only at hj0 hj1 hj2 hj3
  refine AW_seq ?_
  refine AW_seq ?_
  refine AW_draw rfl ?_
  refine AL_p (x_move rfl rfl) ?_
  refine AL_p (x_move rfl rfl) ?_
  refine AL_b (x_gtr rfl rfl rfl) (fun b20 h20 => ?_)
  refine AL_p (x_move rfl rfl) ?_
  cases b20
  · try simp only [tdy] at h20
    have hd := hj3.done wkC (isort_srt wkC) (.inl (by omega))
    refine AL_o rfl rfl rfl rfl ?_
    refine AL_o rfl rfl rfl rfl ?_
    refine AL_o rfl rfl rfl rfl ?_
    refine AL_o rfl rfl rfl rfl ?_
    refine AL_o rfl rfl rfl rfl ?_
    refine AL_o rfl rfl rfl rfl ?_
    refine AL_o rfl rfl rfl rfl ?_
    refine AL_o rfl rfl rfl rfl ?_
    refine AL_o rfl rfl rfl rfl ?_
    refine AL_o rfl rfl rfl rfl ?_
    refine AL_o rfl rfl rfl rfl ?_
    refine AL_o rfl rfl rfl rfl ?_
    refine AL_p (x_pickF rfl rfl rfl) ?_
    refine AL_nild (by kernel_rfl) ?_
    refine AW_condF rfl ?_
    refine AW_exit (BQ_hit ?_)
    refine AW_region ?_
    refine AL_p (x_move rfl rfl) ?_
    refine AL_p (x_add rfl rfl rfl (IntWalk.i64_in _ (by omega))) ?_
    refine AL_p (x_assign rfl rfl) ?_
    refine AL_nil ?_
    refine ⟨⟨⟨i + 1, V⟩, ⟨hj2, OuI.next hs.1 (by omega) hk hd⟩⟩, rn [], ?_, by dsimp only; omega⟩
    exact ⟨by (repeat refine ⟨⟨_, rfl, by first | exact VLe.rf | exact vle_int (by dsimp only; omega)⟩, ?_⟩); exact trivial, by (repeat refine ⟨⟨_, rfl, by first | exact BLe.rf | exact BLe.box AllC.rf | exact BLe.arr (by exact rfl)⟩, ?_⟩); exact trivial, by repeat (first | exact trivial | refine ⟨⟨rfl, by first | (left; intro h; cases h) | (right; rfl), by first | exact (fun _ h => ⟨_, h⟩) | exact (fun _ _ => ⟨_, rfl⟩) | (intro _ h; cases h)⟩, ?_⟩), rfl⟩
  try simp only [tdy] at h20
  refine AL_g rfl rfl (x_move rfl rfl) ?_
  refine AL_g rfl rfl (x_move rfl rfl) ?_
  refine AL_g rfl rfl (x_move rfl rfl) ?_
  refine AL_g rfl rfl (x_oindex (n := 5) rfl rfl rfl rfl (by kernel_rfl) rfl (k := j.toNat) (by omega) (by omega)) ?_
  refine AL_g rfl rfl (x_oloadN (n := 5) rfl rfl rfl (by kernel_rfl) (by omega) rfl rfl) ?_
  refine AL_g rfl rfl (x_move rfl rfl) ?_
  refine AL_g rfl rfl (x_move rfl rfl) ?_
  refine AL_g rfl rfl (x_sub rfl rfl rfl (IntWalk.i64_in _ (by omega))) ?_
  refine AL_g rfl rfl (x_oindex (n := 5) rfl rfl rfl rfl (by kernel_rfl) rfl (k := j.toNat - 1) (by omega) (by omega)) ?_
  refine AL_g rfl rfl (x_oloadN (n := 5) rfl rfl rfl (by kernel_rfl) (by omega) rfl rfl) ?_
  refine AL_g rfl rfl (x_call0 rfl rfl rfl (cmpC_c _ _) rfl rfl) ?_
  refine AL_gb rfl rfl (x_lss rfl rfl rfl) (fun b33 h33 => ?_)
  refine AL_p (x_pickT rfl rfl rfl) ?_
  refine AL_nild (by kernel_rfl) ?_
  cases b33
  · try simp only [tdy] at h33
    have h33 := cmpC_no h33
    have hd := hj3.done wkC (isort_srt wkC) (.inr ⟨by omega, by omega, h33⟩)
    refine AW_condF rfl ?_
    refine AW_exit (BQ_hit ?_)
    refine AW_region ?_
    refine AL_p (x_move rfl rfl) ?_
    refine AL_p (x_add rfl rfl rfl (IntWalk.i64_in _ (by omega))) ?_
    refine AL_p (x_assign rfl rfl) ?_
    refine AL_nil ?_
    refine ⟨⟨⟨i + 1, V⟩, ⟨hj2, OuI.next hs.1 (by omega) hk hd⟩⟩, rn [], ?_, by dsimp only; omega⟩
    exact ⟨by (repeat refine ⟨⟨_, rfl, by first | exact VLe.rf | exact vle_int (by dsimp only; omega)⟩, ?_⟩); exact trivial, by (repeat refine ⟨⟨_, rfl, by first | exact BLe.rf | exact BLe.box AllC.rf | exact BLe.arr (by exact rfl)⟩, ?_⟩); exact trivial, by repeat (first | exact trivial | refine ⟨⟨rfl, by first | (left; intro h; cases h) | (right; rfl), by first | exact (fun _ h => ⟨_, h⟩) | exact (fun _ _ => ⟨_, rfl⟩) | (intro _ h; cases h)⟩, ?_⟩), rfl⟩
  try simp only [tdy] at h33
  have h33 := cmpC_yes h33
  refine AW_condT rfl ?_
  refine AW_skip ?_
  refine AW_seq ?_
  refine AW_block ?_
  refine AW_draw rfl ?_
  refine AL_p (x_move rfl rfl) ?_
  refine AL_p (x_move rfl rfl) ?_
  refine AL_p (x_move rfl rfl) ?_
  refine AL_p (x_move rfl rfl) ?_
  refine AL_p (x_sub rfl rfl rfl (IntWalk.i64_in _ (by omega))) ?_
  refine AL_p (x_move rfl rfl) ?_
  refine AL_p (x_move rfl rfl) ?_
  refine AL_p (x_sub rfl rfl rfl (IntWalk.i64_in _ (by omega))) ?_
  refine AL_p (x_oindex (n := 5) rfl rfl rfl rfl (by kernel_rfl) rfl (k := j.toNat - 1) (by omega) (by omega)) ?_
  refine AL_p (x_oloadN (n := 5) rfl rfl rfl (by kernel_rfl) (by omega) rfl rfl) ?_
  refine AL_p (x_move rfl rfl) ?_
  refine AL_p (x_move rfl rfl) ?_
  refine AL_p (x_oindex (n := 5) rfl rfl rfl rfl (by kernel_rfl) rfl (k := j.toNat) (by omega) (by omega)) ?_
  refine AL_p (x_oloadN (n := 5) rfl rfl rfl (by kernel_rfl) (by omega) rfl rfl) ?_
  refine AL_p (x_oindex (n := 5) rfl rfl rfl rfl (by kernel_rfl) rfl (k := j.toNat) (by omega) (by omega)) ?_
  refine AL_p (x_ostore (V[j.toNat - 1]'(by omega)) rfl rfl rfl rfl (by kernel_rfl) rfl rfl rfl rfl FitL.rf rfl rfl (by first | omega | (rw [filledTo_len (by omega)]; omega) | (simp; omega))) ?_
  refine AL_p (x_oindex (n := 5) rfl rfl rfl rfl (by kernel_rfl) rfl (k := j.toNat - 1) (by omega) (by first | omega | (simp only [List.length_set]; omega))) ?_
  refine AL_p (x_ostore (V[j.toNat]'(by omega)) rfl rfl rfl rfl (by kernel_rfl) rfl rfl rfl rfl FitL.rf rfl rfl (by first | omega | (simp only [List.length_set]; omega))) ?_
  refine AL_nild (by kernel_rfl) ?_
  refine AW_region ?_
  refine AL_p (x_move rfl rfl) ?_
  refine AL_p (x_sub rfl rfl rfl (IntWalk.i64_in _ (by omega))) ?_
  refine AL_p (x_assign rfl rfl) ?_
  refine AL_nil ?_
  refine ⟨⟨⟨j - 1, ((V.set (j.toNat) (V[j.toNat - 1]'(by omega))).set (j.toNat - 1) (V[j.toNat]'(by omega)))⟩, ⟨⟨by dsimp only; omega, by dsimp only; omega⟩, by dsimp only; simp only [List.length_set]; exact hj2, hj3.step (by omega) (by omega) (by omega) h33⟩⟩, rn [], ?_, by dsimp only; omega⟩
  exact ⟨by (repeat refine ⟨⟨_, rfl, by first | exact VLe.rf | exact vle_int (by dsimp only; omega)⟩, ?_⟩); exact trivial, by (repeat refine ⟨⟨_, rfl, by first | exact BLe.rf | exact BLe.box AllC.rf | exact BLe.arr (by exact rfl)⟩, ?_⟩); exact trivial, by repeat (first | exact trivial | refine ⟨⟨rfl, by first | (left; intro h; cases h) | (right; rfl), by first | exact (fun _ h => ⟨_, h⟩) | exact (fun _ _ => ⟨_, rfl⟩) | (intro _ h; cases h)⟩, ?_⟩), rfl⟩
end Go.Proofs.YtibhoanjglfaoaaGreat

/- Two ways that come together: what is behind them is walked once. -/
namespace Go.Proofs.YtibhoanjglfaoaaGreat
open Go.RowKit
set_option linter.unusedVariables false

theorem AW_mid {P : Program} {N : Nat} {K : List Nat} {c1 c2 : Code} {Kn : St → Prop} {Q : Exit → St → Prop} {s : St} {ι : Type} (U : ι → Tmps) (V : ι → Locs) (ks ls : List Nat)
    (h1 : AW P N K c1 (fun s' => ∃ j r', LeS K r' s' ⟨U j ++ keepT s.t ks, V j ++ keepL s.l ls⟩) Q s) (h2 : ∀ j, AW P N K c2 Kn Q ⟨U j ++ keepT s.t ks, V j ++ keepL s.l ls⟩) : AW P N K (.seq c1 c2) Kn Q s :=
  AW_seq (AW_mono (fun s' ⟨j, r', hle⟩ => AW_le hle (h2 j)) (fun _ _ h => h) h1)
end Go.Proofs.YtibhoanjglfaoaaGreat

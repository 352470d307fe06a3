/- A delta that fits a store, in plain words. -/
import Derived.Test.YtgmlecghklaomaaDeltaLaw
namespace Go.Proofs.Ytgmlecghklaomaa
open Go.RowKit
set_option linter.unusedVariables false

theorem relOk_vals2 {a : Relt} (h : relOk a = true) : ∀ r ∈ a.rows, ∀ v ∈ r, valOk v = true := fun r hr v hv => by
  obtain ⟨j, hj, rfl⟩ := List.getElem_of_mem hr
  exact (relOk_sorted h).1 j hj v hv
/-- The relation of a name. -/
def namedIn (l : List Namedt) (n : ByteArray) : Relt × Bool := match l.find? fun x => x.name == n with
  | some x => (x.rel, true)
  | none => (⟨0, []⟩, false)
theorem find_at {α : Type} {p : α → Bool} : ∀ {l : List α} {k : Nat} (hk : k < l.length), NoneTo p l k → p l[k] = true → l.find? p = some l[k]
  | [], k, hk, _, _ => absurd hk (by simp)
  | x :: l, 0, hk, _, hp => by simp at hp; simp [hp]
  | x :: l, k + 1, hk, h, hp => by
    have h0 := h 0 (by simp) (by omega)
    simp only [List.getElem_cons_zero] at h0
    rw [List.find?_cons, h0]
    exact find_at (l := l) (k := k) (by simpa using hk) (fun j hj hjk => by have := h (j + 1) (by simpa using hj) (by omega); simpa using this) (by simpa using hp)
theorem find_none {α : Type} {p : α → Bool} {l : List α} {k : Nat} (h : NoneTo p l k) (hk : l.length ≤ k) : l.find? p = none := by
  rw [List.find?_eq_none]
  intro x hx
  obtain ⟨j, hj, rfl⟩ := List.getElem_of_mem hx
  simp [h j hj (by omega)]
theorem namedIn_at {l : List Namedt} {n : ByteArray} {k : Nat} (hk : k < l.length) (h : NoneTo (fun x => x.name == n) l k) (hp : (l[k].name == n) = true) : namedIn l n = (l[k].rel, true) := by
  unfold namedIn; rw [find_at hk h hp]
theorem namedIn_none {l : List Namedt} {n : ByteArray} {k : Nat} (h : NoneTo (fun x => x.name == n) l k) (hk : l.length ≤ k) : namedIn l n = (⟨0, []⟩, false) := by
  unfold namedIn; rw [find_none h hk]
theorem namedIn_mem {l : List Namedt} {n : ByteArray} (h : (namedIn l n).2 = true) : ∃ x ∈ l, (namedIn l n).1 = x.rel := by
  unfold namedIn at h ⊢
  split at h
  · rename_i x hx
    exact ⟨x, List.mem_of_find?_eq_some hx, rfl⟩
  · cases h
theorem namedIn_ok {s : Storet} {n : ByteArray} (hs : storeOk s = true) (h : (namedIn s.rels n).2 = true) : relOk (namedIn s.rels n).1 = true := by
  obtain ⟨x, hx, e⟩ := namedIn_mem h
  obtain ⟨j, hj, rfl⟩ := List.getElem_of_mem hx
  rw [e]; exact storeOk_rel hs hj
theorem namedIn_small {s : Storet} {n : ByteArray} (hs : smallStore s) : smallRel (namedIn s.rels n).1 := by
  unfold namedIn
  split
  · rename_i x hx
    exact (hs.2 x (List.mem_of_find?_eq_some hx)).2
  · exact ⟨by simp, by simp⟩
theorem deltaOk_two {d : Deltat} (h : deltaOk d = true) {k : Nat} (hk : k < d.changes.length) : two d.changes[k].plus d.changes[k].minus = true := by
  simp only [deltaOk, Bool.and_eq_true] at h
  have := everyB_get h.1 hk
  simp only [changeAt, Bool.and_eq_true] at this
  exact this.2.2.1
theorem apart_comm {a b : Relt} : apart a b = apart b a := by
  have h : ∀ {a b : Relt}, apart a b = true → apart b a = true := fun {a b} h => by
    rw [apart_iff] at h ⊢
    rw [List.length_eq_zero_iff, List.filter_eq_nil_iff] at h ⊢
    intro row hr hm
    simp only [hasRow, decide_eq_true_eq] at hm
    exact h row hm (by simp [hasRow, hr])
  cases h1 : apart a b
  · cases h2 : apart b a
    · rfl
    · rw [h h2] at h1; cases h1
  · rw [h h1]
def fitAt (s : Storet) (l : List Changet) (k : Nat) (h : k < l.length) : Bool :=
  (namedIn s.rels l[k].name).2 && (((namedIn s.rels l[k].name).1.arity == l[k].plus.arity) && (apart (namedIn s.rels l[k].name).1 l[k].plus && ((l[k].minus.rows.filter fun row => !hasRow (namedIn s.rels l[k].name).1.rows row).length == 0)))
def deltaFits (s : Storet) (d : Deltat) : Bool := storeOk s && (deltaOk d && everyB (fitAt s d.changes))
theorem fits_s {s : Storet} {d : Deltat} (h : storeOk s = false) : deltaFits s d = false := by simp [deltaFits, h]
theorem fits_d {s : Storet} {d : Deltat} (h : deltaOk d = false) : deltaFits s d = false := by simp [deltaFits, h]
theorem fits_bad {s : Storet} {d : Deltat} {k : Nat} (hk : k < d.changes.length) (h : fitAt s d.changes k hk = false) : deltaFits s d = false := by simp [deltaFits, everyB_bad hk h]
theorem fits_good {s : Storet} {d : Deltat} {k : Nat} (h1 : storeOk s = true) (h2 : deltaOk d = true) (h : AllAt (fitAt s d.changes) k) (hk : d.changes.length ≤ k) : deltaFits s d = true := by simp [deltaFits, h1, h2, h.all hk]
section
variable {s : Storet} {l : List Changet} {k : Nat} (hk : k < l.length)
theorem fitAt_no (h : (namedIn s.rels l[k].name).2 = false) : fitAt s l k hk = false := by simp [fitAt, h]
theorem fitAt_ar (h : ¬ (namedIn s.rels l[k].name).1.arity = l[k].plus.arity) : fitAt s l k hk = false := by simp [fitAt, h]
theorem fitAt_apart (h : apart (namedIn s.rels l[k].name).1 l[k].plus = false) : fitAt s l k hk = false := by simp [fitAt, h]
theorem fitAt_minus (h : 0 < (l[k].minus.rows.filter fun row => !hasRow (namedIn s.rels l[k].name).1.rows row).length) : fitAt s l k hk = false := by
  have : ((l[k].minus.rows.filter fun row => !hasRow (namedIn s.rels l[k].name).1.rows row).length == 0) = false := by rw [beq_eq_false_iff_ne]; omega
  simp only [fitAt, this, Bool.and_false]
theorem fitAt_yes (h1 : (namedIn s.rels l[k].name).2 = true) (h2 : (namedIn s.rels l[k].name).1.arity = l[k].plus.arity) (h3 : apart (namedIn s.rels l[k].name).1 l[k].plus = true) (h4 : (l[k].minus.rows.filter fun row => !hasRow (namedIn s.rels l[k].name).1.rows row).length = 0) : fitAt s l k hk = true := by
  have e2 : ((namedIn s.rels l[k].name).1.arity == l[k].plus.arity) = true := by simp [h2]
  have e4 : ((l[k].minus.rows.filter fun row => !hasRow (namedIn s.rels l[k].name).1.rows row).length == 0) = true := by rw [h4]; rfl
  unfold fitAt; rw [h1, e2, h3, e4]; rfl
end
end Go.Proofs.Ytgmlecghklaomaa

/- The order of values and rows as plain laws: equal, transitive; a binary search's answer. -/
import Derived.Test.YtcgickpnckedcaaRelLaw
import Derived.Test.YtcgickpnckedcaaAbsVal
namespace Go.Proofs.Ytcgickpnckedcaa
open Go.RowKit
set_option linter.unusedVariables false

def hasRow (rows : List (List Val)) (row : List Val) : Bool := decide (row ∈ rows)
theorem hasRow_at {rows : List (List Val)} {row : List Val} {k : Nat} (hk : k < rows.length) (h : sameRow rows[k] row = true) : hasRow rows row = true := by
  rw [sameRow, decide_eq_true_iff] at h
  rw [hasRow, decide_eq_true_iff, ← h]
  exact List.getElem_mem hk
theorem hasRow_none {rows : List (List Val)} {row : List Val} {k : Nat} (h : NoneTo (fun r => sameRow r row) rows k) (hk : rows.length ≤ k) : hasRow rows row = false := by
  rw [hasRow, decide_eq_false_iff_not]
  intro hm
  obtain ⟨j, hj, e⟩ := List.getElem_of_mem hm
  have := h j hj (by omega)
  simp only [e, sameRow_eq rfl] at this
  cases this

theorem compareBytes_eq : ∀ {a b : List UInt8}, Lib.compareBytes a b = 0 → a = b
  | [], [], _ => rfl
  | [], _ :: _, h => by simp [Lib.compareBytes] at h
  | _ :: _, [], h => by simp [Lib.compareBytes] at h
  | x :: a, y :: b, h => by
    unfold Lib.compareBytes at h
    by_cases h1 : x < y
    · simp [h1] at h
    · by_cases h2 : y < x
      · simp [h1, h2] at h
      · simp only [h1, h2, if_false] at h
        have e : x = y := UInt8.le_antisymm (UInt8.not_lt.1 h2) (UInt8.not_lt.1 h1)
        rw [e, compareBytes_eq h]
theorem compareBytes_self : ∀ (a : List UInt8), Lib.compareBytes a a = 0
  | [] => by simp [Lib.compareBytes]
  | x :: a => by
    have := compareBytes_self a
    unfold Lib.compareBytes
    simp [UInt8.lt_irrefl, this]
theorem compareBytes_trans : ∀ {a b c : List UInt8}, Lib.compareBytes a b < 0 → Lib.compareBytes b c < 0 → Lib.compareBytes a c < 0
  | [], [], _, h, _ => by simp [Lib.compareBytes] at h
  | [], _ :: _, [], _, h => by simp [Lib.compareBytes] at h
  | [], _ :: _, _ :: _, _, _ => by simp [Lib.compareBytes]
  | _ :: _, [], _, h, _ => by simp [Lib.compareBytes] at h
  | _ :: _, _ :: _, [], _, h => by simp [Lib.compareBytes] at h
  | x :: a, y :: b, z :: c, h, h' => by
    unfold Lib.compareBytes at h h' ⊢
    by_cases h1 : x < y
    · by_cases h3 : y < z
      · simp [UInt8.lt_trans h1 h3]
      · by_cases h4 : z < y
        · simp [h3, h4] at h'
        · have e : y = z := UInt8.le_antisymm (UInt8.not_lt.1 h4) (UInt8.not_lt.1 h3)
          subst e; simp [h1]
    · by_cases h2 : y < x
      · simp [h1, h2] at h
      · have e : x = y := UInt8.le_antisymm (UInt8.not_lt.1 h2) (UInt8.not_lt.1 h1)
        subst e
        simp only [h1, if_false] at h
        by_cases h3 : x < z
        · simp [h3]
        · by_cases h4 : z < x
          · simp [h3, h4] at h'
          · simp only [h3, h4, if_false] at h' ⊢
            exact compareBytes_trans h h'

theorem valOk_zero {v : Val} (h : valOk v = true) (hs : v.s.toList.isEmpty = false) : v.n = 0 := by
  rw [valOk_word hs] at h
  simp only [Bool.and_eq_true, beq_iff_eq] at h
  exact h.1
theorem bytes_ext {a b : ByteArray} (h : a.data.toList = b.data.toList) : a = b := by
  obtain ⟨⟨a⟩⟩ := a
  obtain ⟨⟨b⟩⟩ := b
  simp at h; rw [h]
theorem bytes_empty {a : ByteArray} (h : a.toList.isEmpty = true) : a.data.toList = [] := by
  rw [ByteArray.toList_eq] at h
  simpa using h
theorem cmpVal_eq {a b : Val} (ha : valOk a = true) (hb : valOk b = true) (h : cmpVal a b = 0) : a = b := by
  obtain ⟨n, s⟩ := a
  obtain ⟨m, r⟩ := b
  unfold cmpVal at h
  cases h1 : s.toList.isEmpty <;> cases h2 : r.toList.isEmpty
  · simp only [h1, h2] at h
    have hn := valOk_zero ha h1
    have hm := valOk_zero hb h2
    have := bytes_ext (compareBytes_eq h)
    simp_all
  · simp [h1, h2] at h
  · simp [h1, h2] at h
  · simp only [h1, h2, if_true] at h
    have e : s = r := bytes_ext (by rw [bytes_empty h1, bytes_empty h2])
    have : n = m := by omega
    rw [e, this]
theorem cmpVal_self (a : Val) : cmpVal a a = 0 := by
  unfold cmpVal
  split
  · omega
  · exact compareBytes_self _
theorem cmpVal_trans {a b c : Val} (h : cmpVal a b < 0) (h' : cmpVal b c < 0) : cmpVal a c < 0 := by
  unfold cmpVal at *
  cases h1 : a.s.toList.isEmpty <;> cases h2 : b.s.toList.isEmpty <;> cases h3 : c.s.toList.isEmpty <;> simp only [h1, h2, h3, if_true, Bool.false_eq_true, if_false] at h h' ⊢ <;> first | omega | exact compareBytes_trans h h'

theorem cmpRow_self : ∀ a : List Val, cmpRow a a = 0
  | [] => rfl
  | x :: a => by unfold cmpRow; rw [if_pos (cmpVal_self x)]; exact cmpRow_self a
theorem cmpRow_eq : ∀ {a b : List Val}, (∀ v ∈ a, valOk v = true) → (∀ v ∈ b, valOk v = true) → cmpRow a b = 0 → a = b
  | [], [], _, _, _ => rfl
  | [], _ :: _, _, _, h => by simp [cmpRow] at h
  | _ :: _, [], _, _, h => by simp [cmpRow] at h
  | x :: a, y :: b, ha, hb, h => by
    unfold cmpRow at h
    by_cases hc : cmpVal x y = 0
    · rw [if_pos hc] at h
      rw [cmpVal_eq (ha x (by simp)) (hb y (by simp)) hc, cmpRow_eq (fun v hv => ha v (by simp [hv])) (fun v hv => hb v (by simp [hv])) h]
    · rw [if_neg hc] at h; exact absurd h hc
theorem cmpRow_trans : ∀ {a b c : List Val}, (∀ v ∈ a, valOk v = true) → (∀ v ∈ b, valOk v = true) → (∀ v ∈ c, valOk v = true) → cmpRow a b < 0 → cmpRow b c < 0 → cmpRow a c < 0
  | [], [], _, _, _, _, h, _ => by simp [cmpRow] at h
  | [], _ :: _, [], _, _, _, _, h => by simp [cmpRow] at h
  | [], _ :: _, _ :: _, _, _, _, _, _ => by simp [cmpRow]
  | _ :: _, [], _, _, _, _, h, _ => by simp [cmpRow] at h
  | _ :: _, _ :: _, [], _, _, _, _, h => by simp [cmpRow] at h
  | x :: a, y :: b, z :: c, ha, hb, hc, h, h' => by
    unfold cmpRow at h h' ⊢
    by_cases h1 : cmpVal x y = 0
    · have e := cmpVal_eq (ha x (by simp)) (hb y (by simp)) h1
      subst e
      rw [if_pos h1] at h
      by_cases h2 : cmpVal x z = 0
      · rw [if_pos h2] at h' ⊢
        exact cmpRow_trans (fun v hv => ha v (by simp [hv])) (fun v hv => hb v (by simp [hv])) (fun v hv => hc v (by simp [hv])) h h'
      · rw [if_neg h2] at h' ⊢; exact h'
    · rw [if_neg h1] at h
      by_cases h2 : cmpVal y z = 0
      · have e := cmpVal_eq (hb y (by simp)) (hc z (by simp)) h2
        subst e
        rw [if_neg h1]; exact h
      · rw [if_neg h2] at h'
        have h3 := cmpVal_trans h h'
        rw [if_neg (by omega)]; exact h3

/-- Rows of right values, each before the next. -/
def Sorted (rows : List (List Val)) : Prop := (∀ j (h : j < rows.length), ∀ v ∈ rows[j], valOk v = true) ∧ ∀ i j (hi : i < rows.length) (hj : j < rows.length), i < j → cmpRow rows[i] rows[j] < 0
theorem relOk_sorted {x : Relt} (h : relOk x = true) : Sorted x.rows := by
  have hr : relRows x.rows x.arity = true := by simp only [relOk, Bool.and_eq_true] at h; exact h.1
  have hg := relRows_good hr
  have hok : ∀ j (h : j < x.rows.length), ∀ v ∈ x.rows[j], valOk v = true := fun j hj => rowOk_vals (hg.row hj hj)
  refine ⟨hok, ?_⟩
  intro i j hi hj hij
  induction j with
  | zero => omega
  | succ j ih =>
    have hs : cmpRow x.rows[j] x.rows[j + 1] < 0 := by
      have := hg (j + 1) hj hj
      simp only [rowAt, Bool.and_eq_true, decide_eq_true_eq] at this
      exact this.2
    rcases Nat.lt_or_ge i j with h1 | h1
    · exact cmpRow_trans (hok i hi) (hok j (by omega)) (hok (j + 1) hj) (ih (by omega) h1) hs
    · obtain rfl : i = j := by omega
      exact hs

/-- Everything ahead of i stands before the row; nothing from j on does. -/
def Between (rows : List (List Val)) (row : List Val) (i j : Nat) : Prop :=
  (∀ t (h : t < rows.length), t < i → cmpRow rows[t] row < 0) ∧ ∀ t (h : t < rows.length), j ≤ t → ¬ cmpRow rows[t] row < 0
theorem Between.start {rows : List (List Val)} {row : List Val} : Between rows row 0 rows.length := ⟨fun _ _ h => absurd h (by omega), fun _ h h' => absurd h (by omega)⟩
theorem Between.right {rows : List (List Val)} {row : List Val} {i j h : Nat} (hs : Sorted rows) (hr : ∀ v ∈ row, valOk v = true) (H : Between rows row i j) (hh : h < rows.length) (hc : cmpRow rows[h] row < 0) : Between rows row (h + 1) j :=
  ⟨fun t ht hth => by
    rcases Nat.lt_or_ge t h with h1 | h1
    · exact cmpRow_trans (hs.1 t ht) (hs.1 h hh) hr (hs.2 t h ht hh h1) hc
    · obtain rfl : t = h := by omega
      exact hc, H.2⟩
theorem Between.left {rows : List (List Val)} {row : List Val} {i j h : Nat} (hs : Sorted rows) (hr : ∀ v ∈ row, valOk v = true) (H : Between rows row i j) (hh : h < rows.length) (hc : ¬ cmpRow rows[h] row < 0) : Between rows row i h :=
  ⟨H.1, fun t ht hth hlt => by
    rcases Nat.lt_or_ge h t with h1 | h1
    · exact hc (cmpRow_trans (hs.1 h hh) (hs.1 t ht) hr (hs.2 h t hh ht h1) hlt)
    · obtain rfl : t = h := by omega
      exact hc hlt⟩
/-- The place of a row in a right relation, or where it would be. -/
def pos (rows : List (List Val)) (row : List Val) : Nat := rows.findIdx fun r => !decide (cmpRow r row < 0)
theorem Between.pos {rows : List (List Val)} {row : List Val} {i : Nat} (hi : i ≤ rows.length) (H : Between rows row i i) : pos rows row = i := by
  unfold Proofs.Ytcgickpnckedcaa.pos
  rcases Nat.lt_or_ge i rows.length with h1 | h1
  · rw [List.findIdx_eq h1]
    exact ⟨by simpa using H.2 i h1 (Nat.le_refl _), fun j hj => by simpa using H.1 j (by omega) hj⟩
  · obtain rfl : i = rows.length := by omega
    rw [List.findIdx_eq_length]
    intro r hr
    obtain ⟨j, hj, rfl⟩ := List.getElem_of_mem hr
    simpa using H.1 j hj hj
theorem Between.has {rows : List (List Val)} {row : List Val} {i : Nat} (hs : Sorted rows) (hr : ∀ v ∈ row, valOk v = true) (hi : i < rows.length) (H : Between rows row i i) : hasRow rows row = (cmpRow rows[i] row == 0) := by
  rw [hasRow]
  by_cases hc : cmpRow rows[i] row = 0
  · have e := cmpRow_eq (hs.1 i hi) hr hc
    have : row ∈ rows := by rw [← e]; exact List.getElem_mem hi
    simp [hc, this]
  · have : row ∉ rows := by
      intro hm
      obtain ⟨j, hj, e⟩ := List.getElem_of_mem hm
      have h0 : cmpRow rows[j] row = 0 := by rw [e]; exact cmpRow_self _
      have h1 : i ≤ j := by
        rcases Nat.lt_or_ge j i with h | h
        · have := H.1 j hj h; omega
        · exact h
      rcases Nat.lt_or_ge i j with h2 | h2
      · have := hs.2 i j hi hj h2
        rw [e] at this
        exact H.2 i hi (Nat.le_refl _) this
      · obtain rfl : i = j := by omega
        exact hc h0
    simp [hc, this]
theorem Between.hasNot {rows : List (List Val)} {row : List Val} (H : Between rows row rows.length rows.length) : hasRow rows row = false := by
  rw [hasRow, decide_eq_false_iff_not]
  intro hm
  obtain ⟨j, hj, e⟩ := List.getElem_of_mem hm
  have := H.1 j hj hj
  rw [e, cmpRow_self] at this
  omega
theorem hasRow_bad {rows : List (List Val)} {row : List Val} (hs : ∀ j (h : j < rows.length), rowOk rows[j] = true) (hr : rowOk row = false) : hasRow rows row = false := by
  rw [hasRow, decide_eq_false_iff_not]
  intro hm
  obtain ⟨j, hj, e⟩ := List.getElem_of_mem hm
  have := hs j hj
  rw [e, hr] at this; cases this
theorem relOk_rows {x : Relt} (h : relOk x = true) : ∀ j (h : j < x.rows.length), rowOk x.rows[j] = true := by
  have hr : relRows x.rows x.arity = true := by simp only [relOk, Bool.and_eq_true] at h; exact h.1
  exact fun j hj => (relRows_good hr).row hj hj
def relHas (x : Relt) (row : List Val) : Bool := relOk x && hasRow x.rows row
theorem relHas_bad {x : Relt} {row : List Val} (h : relOk x = false) : relHas x row = false := by rw [relHas, h]; rfl
theorem relHas_row {x : Relt} {row : List Val} (h : relOk x = true) (hr : rowOk row = false) : relHas x row = false := by rw [relHas, hasRow_bad (relOk_rows h) hr]; simp
theorem relHas_ok {x : Relt} {row : List Val} (h : relOk x = true) : relHas x row = hasRow x.rows row := by rw [relHas, h]; simp
theorem relOk_len {x : Relt} (h : relOk x = true) : x.rows.length ≤ 1048576 := by
  simp only [relOk, Bool.and_eq_true, decide_eq_true_eq] at h
  omega
end Go.Proofs.Ytcgickpnckedcaa

/- Right stores and like stores, in plain words. -/
import Derived.Test.YtgmlecghklaomaaGenC
import Derived.Test.YtgmlecghklaomaaAbsOld
import Derived.Test.YtgmlecghklaomaaRelEq
namespace Go.Proofs.Ytgmlecghklaomaa
open Go.RowKit
set_option linter.unusedVariables false

/-! A test at each place of a list. -/
def AllAt {n : Nat} (p : (k : Nat) → k < n → Bool) (k : Nat) : Prop := ∀ j (h : j < n), j < k → p j h = true
theorem AllAt.zero {n : Nat} {p : (k : Nat) → k < n → Bool} : AllAt p 0 := fun _ _ h => absurd h (by omega)
theorem AllAt.succ {n : Nat} {p : (k : Nat) → k < n → Bool} {k : Nat} (h : AllAt p k) (hk : k < n) (hp : p k hk = true) : AllAt p (k + 1) := fun j hj hjk => by
  rcases Nat.lt_or_ge j k with h1 | h1
  · exact h j hj h1
  · obtain rfl : j = k := by omega
    exact hp
def everyB {n : Nat} (p : (k : Nat) → k < n → Bool) : Bool := (List.range n).all fun k => if h : k < n then p k h else true
theorem everyB_get {n : Nat} {p : (k : Nat) → k < n → Bool} (h : everyB p = true) {j : Nat} (hj : j < n) : p j hj = true := by
  unfold everyB at h
  rw [List.all_eq_true] at h
  have := h j (by simpa using hj)
  rwa [dif_pos hj] at this
theorem AllAt.all {n : Nat} {p : (k : Nat) → k < n → Bool} {k : Nat} (h : AllAt p k) (hk : n ≤ k) : everyB p = true := by
  unfold everyB
  rw [List.all_eq_true]
  intro j hj
  have hj' : j < n := by simpa using hj
  rw [dif_pos hj']
  exact h j hj' (by omega)
theorem everyB_bad {n : Nat} {p : (k : Nat) → k < n → Bool} {k : Nat} (hk : k < n) (hp : p k hk = false) : everyB p = false := by
  cases h : everyB p
  · rfl
  · have := everyB_get h hk
    rw [hp] at this; cases this

def namedC (x : Namedt) : List Cell := [.c (.string x.name), .c (.int .i64 x.rel.arity), .sl rowE x.rel.rows]
instance : CellsOf namedE namedC := cellsIso (e := pairE strE (pairE relE unitE)) (fun x : Namedt => (x.name, x.rel, ()))
def storeC (s : Storet) : List Cell := [.sl namedE s.rels]
instance : CellsOf storeE storeC := cellsIso (e := pairE (sliceE namedE) unitE) (fun x : Storet => (x.rels, ()))
theorem inv_str {g : Gh} {l : Locs} {w : World} {v : Value} {s : ByteArray} (h : VR1 g l w v (.one (.c (.string s)))) : v = .string s ∧ s.size ≤ maxLen := h
theorem wordOkI_c (s : ByteArray) : AC Try.prog 67 [.one (.c (.string s))] [] (.one (.c (.bool (wordB s)))) [] :=
  AC.pure ⟨_, _, Try.func67, rfl, rfl⟩ trivial fun w g cargs h => by
    obtain ⟨x, rfl, h1⟩ := inv1 h
    obtain ⟨rfl, hs⟩ := inv_str h1
    exact (wordOkI_any s w hs).mono fun e w' ⟨h1, h2⟩ => ⟨h1, below_eq h2⟩
theorem wordOkS_c (s : ByteArray) : AC Try.prog 64 [.one (.c (.string s))] [] (.one (.c (.bool (wordB s)))) [] :=
  AC.pure ⟨_, _, Try.func64, rfl, rfl⟩ trivial fun w g cargs h => by
    obtain ⟨x, rfl, h1⟩ := inv1 h
    obtain ⟨rfl, hs⟩ := inv_str h1
    exact (wordOkS_any s w hs).mono fun e w' ⟨h1, h2⟩ => ⟨h1, below_eq h2⟩

def bless (a b : ByteArray) : Bool := Op.bytesLess a.toList b.toList
def namedAt (l : List Namedt) (k : Nat) (h : k < l.length) : Bool := wordB l[k].name && (relOk l[k].rel && (decide (k = 0) || bless (l[k - 1]'(by omega)).name l[k].name))
def storeOk (s : Storet) : Bool := everyB (namedAt s.rels) && decide (s.rels.length ≤ 24)
theorem storeOk_len {s : Storet} (h : 24 < s.rels.length) : storeOk s = false := by
  have : decide (s.rels.length ≤ 24) = false := decide_eq_false (by omega)
  unfold storeOk; rw [this]; simp
theorem storeOk_bad {s : Storet} {k : Nat} (hk : k < s.rels.length) (h : namedAt s.rels k hk = false) : storeOk s = false := by
  unfold storeOk; rw [everyB_bad hk h]; rfl
theorem storeOk_good {s : Storet} {k : Nat} (h : AllAt (namedAt s.rels) k) (hk : s.rels.length ≤ k) (hl : s.rels.length ≤ 24) : storeOk s = true := by
  unfold storeOk; rw [h.all hk, decide_eq_true hl]; rfl
theorem storeOk_rel {s : Storet} (h : storeOk s = true) {k : Nat} (hk : k < s.rels.length) : relOk s.rels[k].rel = true := by
  simp only [storeOk, Bool.and_eq_true] at h
  have := everyB_get h.1 hk
  simp only [namedAt, Bool.and_eq_true] at this
  exact this.2.1
theorem storeOk_max {s : Storet} (h : storeOk s = true) : s.rels.length ≤ 24 := by
  simp only [storeOk, Bool.and_eq_true, decide_eq_true_eq] at h
  exact h.2
theorem namedAt_word {l : List Namedt} {k : Nat} (hk : k < l.length) (h : wordB l[k].name = false) : namedAt l k hk = false := by simp [namedAt, h]
theorem namedAt_rel {l : List Namedt} {k : Nat} (hk : k < l.length) (h : relOk l[k].rel = false) : namedAt l k hk = false := by simp [namedAt, h]
theorem namedAt_order {l : List Namedt} {k : Nat} (hk : k < l.length) (h0 : 0 < k) (h : Op.bytesLess (l[k - 1]'(by omega)).name.toList l[k].name.toList = false) : namedAt l k hk = false := by
  have : decide (k = 0) = false := decide_eq_false (by omega)
  simp [namedAt, this, bless, h]
theorem namedAt_first {l : List Namedt} {k : Nat} (hk : k < l.length) (h0 : k = 0) (h1 : wordB l[k].name = true) (h2 : relOk l[k].rel = true) : namedAt l k hk = true := by
  have : decide (k = 0) = true := decide_eq_true h0
  simp only [namedAt, this, h1, h2, Bool.true_or, Bool.and_self]
theorem namedAt_next {l : List Namedt} {k : Nat} (hk : k < l.length) (h1 : wordB l[k].name = true) (h2 : relOk l[k].rel = true) (h : Op.bytesLess (l[k - 1]'(by omega)).name.toList l[k].name.toList = true) : namedAt l k hk = true := by
  simp [namedAt, bless, h, h1, h2]

def likeNamed (x y : Namedt) : Bool := x.name == y.name && likeRel x.rel y.rel
theorem likeNamed_name {x y : Namedt} (h : (x.name == y.name) = false) : likeNamed x y = false := by simp [likeNamed, h]
theorem likeNamed_ok {x y : Namedt} (h : (x.name == y.name) = true) : likeNamed x y = likeRel x.rel y.rel := by simp [likeNamed, h]
def likeNames (a b : List Namedt) : Bool := if h : a.length = b.length then everyB (n := a.length) (fun k hk => likeNamed a[k] (b[k]'(by omega))) else false
theorem likeNames_len {a b : List Namedt} (h : ¬ a.length = b.length) : likeNames a b = false := by simp [likeNames, h]
theorem likeNames_at {a b : List Namedt} {k : Nat} (hk : k < a.length) (hk' : k < b.length) (hp : likeNamed a[k] b[k] = false) : likeNames a b = false := by
  unfold likeNames
  split
  · exact everyB_bad hk hp
  · rfl
def LikeN (a b : List Namedt) (k : Nat) : Prop := ∀ j (h : j < a.length) (h' : j < b.length), j < k → likeNamed a[j] b[j] = true
theorem LikeN.zero {a b : List Namedt} : LikeN a b 0 := fun _ _ _ h => absurd h (by omega)
theorem LikeN.succ {a b : List Namedt} {k : Nat} (h : LikeN a b k) (hk : k < a.length) (hk' : k < b.length) (hs : likeNamed a[k] b[k] = true) : LikeN a b (k + 1) := fun j hj hj' hjk => by
  rcases Nat.lt_or_ge j k with h1 | h1
  · exact h j hj hj' h1
  · obtain rfl : j = k := by omega
    exact hs
theorem likeNames_eq {a b : List Namedt} {k : Nat} (hl : a.length = b.length) (h : LikeN a b k) (hk : a.length ≤ k) : likeNames a b = true := by
  unfold likeNames
  rw [dif_pos hl]
  exact AllAt.all (k := k) (fun j hj hjk => h j hj (by omega) hjk) hk
def sameStore (a b : Storet) : Bool := storeOk a && (storeOk b && likeNames a.rels b.rels)
theorem sameStore_a {a b : Storet} (h : storeOk a = false) : sameStore a b = false := by simp [sameStore, h]
theorem sameStore_b {a b : Storet} (h : storeOk b = false) : sameStore a b = false := by simp [sameStore, h]
theorem sameStore_ok {a b : Storet} (h : storeOk a = true) (h' : storeOk b = true) : sameStore a b = likeNames a.rels b.rels := by simp [sameStore, h, h']
theorem sameStore_len {a b : Storet} (h : ¬ a.rels.length = b.rels.length) : sameStore a b = false := by simp [sameStore, likeNames_len h]
theorem sameStore_at {a b : Storet} {k : Nat} (hk : k < a.rels.length) (hk' : k < b.rels.length) (h : likeNamed a.rels[k] b.rels[k] = false) : sameStore a b = false := by simp [sameStore, likeNames_at hk hk' h]
theorem likeNamed_rel {x y : Namedt} (h1 : relOk x.rel = true) (h2 : relOk y.rel = true) (h : sameRel x.rel y.rel = false) : likeNamed x y = false := by
  rw [sameRel_like h1 h2] at h
  simp [likeNamed, h]
theorem likeNamed_yes {x y : Namedt} (h1 : relOk x.rel = true) (h2 : relOk y.rel = true) (hn : (x.name == y.name) = true) (h : sameRel x.rel y.rel = true) : likeNamed x y = true := by
  rw [sameRel_like h1 h2] at h
  simp [likeNamed, h, hn]
end Go.Proofs.Ytgmlecghklaomaa

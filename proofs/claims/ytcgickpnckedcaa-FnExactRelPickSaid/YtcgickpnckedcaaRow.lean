/- Contracts of the functions over rows: RowOk and RowOrder. -/
import Derived.Test.YtcgickpnckedcaaValue
namespace Go.Proofs.Ytcgickpnckedcaa
open Go.RowKit
set_option linter.unusedVariables false

theorem cell_alloc {w : World} {a : Addr} {v : Value} (h : w.cell? a = some v) (o : Obj) : (w.alloc o).cell? a = some v :=
  (World.cell?_alloc_lt _ _ _ (World.block_lt_of_cell? w a h)).trans h

/-- Nothing that lay in w has turned, and these cells hold these values. -/
def Kept (w : World) (L : List (Addr × Value)) (W : World) : Prop := Below w.heap.size w W ∧ ∀ p ∈ L, W.cell? p.1 = some p.2
theorem Kept.up {w W w' : World} {L : List (Addr × Value)} (hb : Below W.heap.size W w') (h : Kept w L W) : Kept w L w' :=
  ⟨below_up h.1 hb (Nat.le_refl _), fun p hp => (hb.cell (World.block_lt_of_cell? W p.1 (h.2 p hp))).trans (h.2 p hp)⟩
theorem Kept.drew {w W : World} {L : List (Addr × Value)} (h : Kept w L W) : Kept w L W.drew := ⟨h.1.drew, h.2⟩
theorem Kept.alloc {w W : World} {L : List (Addr × Value)} (h : Kept w L W) (o : Obj) : Kept w L (W.alloc o) := h.up ((Below.refl _ _).alloc (Nat.le_refl _) o)
theorem Kept.start (w : World) : Kept w [] w := ⟨Below.refl _ _, fun p hp => by cases hp⟩
theorem Kept.cons {w W : World} {L : List (Addr × Value)} {a : Addr} {v : Value} (hc : W.cell? a = some v) (h : Kept w L W) : Kept w ((a, v) :: L) W :=
  ⟨h.1, fun p hp => by
    rcases List.mem_cons.1 hp with rfl | hp
    · exact hc
    · exact h.2 p hp⟩
theorem Kept.of {w W : World} {L L' : List (Addr × Value)} (h : Kept w L W) (hL : ∀ p ∈ L', p ∈ L) : Kept w L' W := ⟨h.1, fun p hp => h.2 p (hL p hp)⟩
theorem Held.kept {w W : World} {L : List (Nat × Array Value)} (h : Held w L W) : Kept w [] W := ⟨h.below, fun p hp => by cases hp⟩
theorem Kept.held {w W : World} {L : List (Addr × Value)} (h : Kept w L W) : Held w [] W := ⟨h.1, fun p hp => by cases hp⟩
theorem Kept.c1 {w W : World} {a0 : Addr} {v0 : Value} (h : Kept w [(a0, v0)] W) : Kept w [(a0, v0)] W ∧ W.cell? a0 = some v0 := ⟨h, h.2 (a0, v0) (by simp)⟩
theorem Kept.c2 {w W : World} {a0 a1 : Addr} {v0 v1 : Value} (h : Kept w [(a0, v0), (a1, v1)] W) : Kept w [(a0, v0), (a1, v1)] W ∧ W.cell? a0 = some v0 ∧ W.cell? a1 = some v1 := ⟨h, h.2 (a0, v0) (by simp), h.2 (a1, v1) (by simp)⟩
theorem Kept.c3 {w W : World} {a0 a1 a2 : Addr} {v0 v1 v2 : Value} (h : Kept w [(a0, v0), (a1, v1), (a2, v2)] W) : Kept w [(a0, v0), (a1, v1), (a2, v2)] W ∧ W.cell? a0 = some v0 ∧ W.cell? a1 = some v1 ∧ W.cell? a2 = some v2 := ⟨h, h.2 (a0, v0) (by simp), h.2 (a1, v1) (by simp), h.2 (a2, v2) (by simp)⟩
theorem Kept.c4 {w W : World} {a0 a1 a2 a3 : Addr} {v0 v1 v2 v3 : Value} (h : Kept w [(a0, v0), (a1, v1), (a2, v2), (a3, v3)] W) : Kept w [(a0, v0), (a1, v1), (a2, v2), (a3, v3)] W ∧ W.cell? a0 = some v0 ∧ W.cell? a1 = some v1 ∧ W.cell? a2 = some v2 ∧ W.cell? a3 = some v3 := ⟨h, h.2 (a0, v0) (by simp), h.2 (a1, v1) (by simp), h.2 (a2, v2) (by simp), h.2 (a3, v3) (by simp)⟩
theorem Kept.c5 {w W : World} {a0 a1 a2 a3 a4 : Addr} {v0 v1 v2 v3 v4 : Value} (h : Kept w [(a0, v0), (a1, v1), (a2, v2), (a3, v3), (a4, v4)] W) : Kept w [(a0, v0), (a1, v1), (a2, v2), (a3, v3), (a4, v4)] W ∧ W.cell? a0 = some v0 ∧ W.cell? a1 = some v1 ∧ W.cell? a2 = some v2 ∧ W.cell? a3 = some v3 ∧ W.cell? a4 = some v4 := ⟨h, h.2 (a0, v0) (by simp), h.2 (a1, v1) (by simp), h.2 (a2, v2) (by simp), h.2 (a3, v3) (by simp), h.2 (a4, v4) (by simp)⟩
theorem Kept.c6 {w W : World} {a0 a1 a2 a3 a4 a5 : Addr} {v0 v1 v2 v3 v4 v5 : Value} (h : Kept w [(a0, v0), (a1, v1), (a2, v2), (a3, v3), (a4, v4), (a5, v5)] W) : Kept w [(a0, v0), (a1, v1), (a2, v2), (a3, v3), (a4, v4), (a5, v5)] W ∧ W.cell? a0 = some v0 ∧ W.cell? a1 = some v1 ∧ W.cell? a2 = some v2 ∧ W.cell? a3 = some v3 ∧ W.cell? a4 = some v4 ∧ W.cell? a5 = some v5 := ⟨h, h.2 (a0, v0) (by simp), h.2 (a1, v1) (by simp), h.2 (a2, v2) (by simp), h.2 (a3, v3) (by simp), h.2 (a4, v4) (by simp), h.2 (a5, v5) (by simp)⟩
theorem Kept.c7 {w W : World} {a0 a1 a2 a3 a4 a5 a6 : Addr} {v0 v1 v2 v3 v4 v5 v6 : Value} (h : Kept w [(a0, v0), (a1, v1), (a2, v2), (a3, v3), (a4, v4), (a5, v5), (a6, v6)] W) : Kept w [(a0, v0), (a1, v1), (a2, v2), (a3, v3), (a4, v4), (a5, v5), (a6, v6)] W ∧ W.cell? a0 = some v0 ∧ W.cell? a1 = some v1 ∧ W.cell? a2 = some v2 ∧ W.cell? a3 = some v3 ∧ W.cell? a4 = some v4 ∧ W.cell? a5 = some v5 ∧ W.cell? a6 = some v6 := ⟨h, h.2 (a0, v0) (by simp), h.2 (a1, v1) (by simp), h.2 (a2, v2) (by simp), h.2 (a3, v3) (by simp), h.2 (a4, v4) (by simp), h.2 (a5, v5) (by simp), h.2 (a6, v6) (by simp)⟩
theorem Kept.c8 {w W : World} {a0 a1 a2 a3 a4 a5 a6 a7 : Addr} {v0 v1 v2 v3 v4 v5 v6 v7 : Value} (h : Kept w [(a0, v0), (a1, v1), (a2, v2), (a3, v3), (a4, v4), (a5, v5), (a6, v6), (a7, v7)] W) : Kept w [(a0, v0), (a1, v1), (a2, v2), (a3, v3), (a4, v4), (a5, v5), (a6, v6), (a7, v7)] W ∧ W.cell? a0 = some v0 ∧ W.cell? a1 = some v1 ∧ W.cell? a2 = some v2 ∧ W.cell? a3 = some v3 ∧ W.cell? a4 = some v4 ∧ W.cell? a5 = some v5 ∧ W.cell? a6 = some v6 ∧ W.cell? a7 = some v7 := ⟨h, h.2 (a0, v0) (by simp), h.2 (a1, v1) (by simp), h.2 (a2, v2) (by simp), h.2 (a3, v3) (by simp), h.2 (a4, v4) (by simp), h.2 (a5, v5) (by simp), h.2 (a6, v6) (by simp), h.2 (a7, v7) (by simp)⟩
theorem Kept.c9 {w W : World} {a0 a1 a2 a3 a4 a5 a6 a7 a8 : Addr} {v0 v1 v2 v3 v4 v5 v6 v7 v8 : Value} (h : Kept w [(a0, v0), (a1, v1), (a2, v2), (a3, v3), (a4, v4), (a5, v5), (a6, v6), (a7, v7), (a8, v8)] W) : Kept w [(a0, v0), (a1, v1), (a2, v2), (a3, v3), (a4, v4), (a5, v5), (a6, v6), (a7, v7), (a8, v8)] W ∧ W.cell? a0 = some v0 ∧ W.cell? a1 = some v1 ∧ W.cell? a2 = some v2 ∧ W.cell? a3 = some v3 ∧ W.cell? a4 = some v4 ∧ W.cell? a5 = some v5 ∧ W.cell? a6 = some v6 ∧ W.cell? a7 = some v7 ∧ W.cell? a8 = some v8 := ⟨h, h.2 (a0, v0) (by simp), h.2 (a1, v1) (by simp), h.2 (a2, v2) (by simp), h.2 (a3, v3) (by simp), h.2 (a4, v4) (by simp), h.2 (a5, v5) (by simp), h.2 (a6, v6) (by simp), h.2 (a7, v7) (by simp), h.2 (a8, v8) (by simp)⟩
theorem Kept.c10 {w W : World} {a0 a1 a2 a3 a4 a5 a6 a7 a8 a9 : Addr} {v0 v1 v2 v3 v4 v5 v6 v7 v8 v9 : Value} (h : Kept w [(a0, v0), (a1, v1), (a2, v2), (a3, v3), (a4, v4), (a5, v5), (a6, v6), (a7, v7), (a8, v8), (a9, v9)] W) : Kept w [(a0, v0), (a1, v1), (a2, v2), (a3, v3), (a4, v4), (a5, v5), (a6, v6), (a7, v7), (a8, v8), (a9, v9)] W ∧ W.cell? a0 = some v0 ∧ W.cell? a1 = some v1 ∧ W.cell? a2 = some v2 ∧ W.cell? a3 = some v3 ∧ W.cell? a4 = some v4 ∧ W.cell? a5 = some v5 ∧ W.cell? a6 = some v6 ∧ W.cell? a7 = some v7 ∧ W.cell? a8 = some v8 ∧ W.cell? a9 = some v9 := ⟨h, h.2 (a0, v0) (by simp), h.2 (a1, v1) (by simp), h.2 (a2, v2) (by simp), h.2 (a3, v3) (by simp), h.2 (a4, v4) (by simp), h.2 (a5, v5) (by simp), h.2 (a6, v6) (by simp), h.2 (a7, v7) (by simp), h.2 (a8, v8) (by simp), h.2 (a9, v9) (by simp)⟩

def rowE : Enc (List Val) := isoE (pairE (sliceE valE) unitE) (fun r => (r, ()))
theorem rowE_rep {w : World} {cs : List Value} {r : List Val} {bs : List Nat} : rowE.rep w cs r bs ↔ ∃ a n cap, cs = [.slice a n cap] ∧ SliceRep valE w a n cap r bs := by
  constructor
  · rintro ⟨c1, c2, b1, b2, rfl, rfl, ⟨a, n, cap, rfl, h⟩, rfl, rfl⟩
    exact ⟨a, n, cap, rfl, by simpa using h⟩
  · rintro ⟨a, n, cap, rfl, h⟩
    exact ⟨[_], [], bs, [], rfl, by simp, ⟨a, n, cap, rfl, h⟩, rfl, rfl⟩
theorem opens_lRow : Opens Try.prog rowE 44 :=
  opens_iso (fun x => x.1) (fun _ => rfl) (opens_struct Try.underlying44 (by kernel_rfl) (opensF_cons rfl (by kernel_rfl) (opens_slice Try.underlying42 (by kernel_rfl) (by decide) opens_lValue) opensF_nil))

/-- Element i of a slice of values. -/
theorem SliceRep.val {w : World} {a : Option Addr} {n cap : Nat} {xs : List Val} {bs : List Nat} (h : SliceRep valE w a n cap xs bs) {i : Nat} (hi : i < xs.length) :
    ∃ g off, a = some ⟨g, off, none⟩ ∧ w.cell? ⟨g, off + i * 2, none⟩ = some (.int .i64 xs[i].n) ∧ w.cell? ⟨g, off + i * 2 + 1, none⟩ = some (.string xs[i].s) ∧ xs[i].s.size ≤ maxLen ∧ (Lit.int .i64 xs[i].n).wf = true := by
  obtain ⟨g, off, cs, b, ha, hr, hc, _, _⟩ := h.get hi
  obtain ⟨rfl, h1, h2, _⟩ := valE_rep.1 hr
  exact ⟨g, off, ha, hc 0 _ rfl, hc 1 _ rfl, h2, h1⟩

/-- The place of the first element that meets p, or -1. -/
def firstIdx {α : Type} (p : α → Bool) (xs : List α) : Int := match xs.findIdx? p with | some i => i | none => -1
theorem firstIdx_at {α : Type} {p : α → Bool} {xs : List α} {k : Nat} (hk : k < xs.length) (h0 : ∀ j (h : j < xs.length), j < k → p xs[j] = false) (h1 : p xs[k] = true) : firstIdx p xs = k := by
  have : xs.findIdx? p = some k := by
    rw [List.findIdx?_eq_some_iff_getElem]
    exact ⟨hk, h1, fun j hj => by simp [h0 j (by omega) hj]⟩
  simp [firstIdx, this]
theorem firstIdx_none {α : Type} {p : α → Bool} {xs : List α} (h0 : ∀ j (h : j < xs.length), p xs[j] = false) : firstIdx p xs = -1 := by
  have : xs.findIdx? p = none := by
    rw [List.findIdx?_eq_none_iff]
    intro x hx
    obtain ⟨i, hi, rfl⟩ := List.getElem_of_mem hx
    exact h0 i hi
  simp [firstIdx, this]
theorem firstIdx_any {α : Type} (p : α → Bool) (xs : List α) : decide (0 ≤ firstIdx p xs) = xs.any p := by
  unfold firstIdx
  cases h : xs.findIdx? p with
  | none =>
    rw [List.findIdx?_eq_none_iff] at h
    have : xs.any p = false := by rw [List.any_eq_false]; intro x hx; simp [h x hx]
    simp [this]
  | some i =>
    have : xs.any p = true := by
      rw [List.findIdx?_eq_some_iff_getElem] at h
      obtain ⟨hi, hp, _⟩ := h
      rw [List.any_eq_true]; exact ⟨_, List.getElem_mem hi, hp⟩
    simp [this]
/-- None of the first k elements meets p. -/
def NoneTo {α : Type} (p : α → Bool) (xs : List α) (k : Nat) : Prop := ∀ j (h : j < xs.length), j < k → p xs[j] = false
theorem NoneTo.zero {α : Type} {p : α → Bool} {xs : List α} : NoneTo p xs 0 := fun _ _ h => by omega
theorem NoneTo.succ {α : Type} {p : α → Bool} {xs : List α} {k : Nat} (h : NoneTo p xs k) (hk : k < xs.length) (hp : p xs[k] = false) : NoneTo p xs (k + 1) := fun j hj hjk => by
  rcases Nat.lt_or_ge j k with h1 | h1
  · exact h j hj h1
  · obtain rfl : j = k := by omega
    exact hp
theorem NoneTo.none {α : Type} {p : α → Bool} {xs : List α} (h : NoneTo p xs xs.length) : firstIdx p xs = -1 := firstIdx_none fun j hj => h j hj hj
theorem NoneTo.all {α : Type} {p : α → Bool} {xs : List α} (h : NoneTo p xs xs.length) : xs.any p = false := by
  rw [List.any_eq_false]
  intro x hx
  obtain ⟨i, hi, rfl⟩ := List.getElem_of_mem hx
  simp [h i hi hi]
theorem any_at {α : Type} {p : α → Bool} {xs : List α} {k : Nat} (hk : k < xs.length) (h1 : p xs[k] = true) : xs.any p = true :=
  List.any_eq_true.2 ⟨_, List.getElem_mem hk, h1⟩

def badVal (v : Val) : Bool := !valOk v
set_option maxHeartbeats 400000 in
theorem rowOkFn_any (v : Val) (w : World) (hs : v.s.size ≤ maxLen) :
    Calls Try.prog 124 #[.agg #[.int .i64 v.n, .string v.s]] w fun e w' => e = .returned (.bool (badVal v)) ∧ Below w.heap.size w w' := by
  have H0 := (Held.start w).box_ #[.int .i64 v.n, .string v.s] 37
  go_enter Try.func124, Try.ntmps124
  go_wp2_with fail
  refine (valueOkI_any _ _ _ hs).mono ?_
  rintro e w1 ⟨rfl, hb1⟩
  go_wp2_with fail
  go_ret
  exact ⟨rfl, (H0.up hb1).below⟩

set_option maxHeartbeats 800000 in
theorem idxVal_any (a : Option Addr) (n cap : Nat) (xs : List Val) (bs : List Nat) (w : World) (h : SliceRep valE w a n cap xs bs) :
    Calls Try.prog 139 #[.slice a n cap, .func (.func 124) #[] #[]] w fun e w' => e = .returned (.int .i64 (firstIdx badVal xs)) ∧ Below w.heap.size w w' := by
  have hmax := h.max
  obtain rfl := h.1
  go_enter Try.func139, Try.ntmps139
  go_wp2
  go_loopw [8] (fun i W => ∃ k : Nat, k ≤ xs.length ∧ i = .int .i64 k ∧ NoneTo badVal xs k ∧ Held w [] W) (fun i _ => xs.length - (intOf i).toNat)
  case atStart => exact ⟨0, Nat.zero_le _, rfl, .zero, Held.start w⟩
  case round =>
    obtain ⟨k, hk, rfl, hall, H⟩ := hrel
    by_cases hlt : k < xs.length
    · obtain ⟨g, off, rfl, c0, c1, hs, hn⟩ := (h.up H.below).val hlt
      cases hp : badVal xs[k]
      · have HA := hall.succ hlt hp
        clear hall
        go_wp2_with fail
        refine (rowOkFn_any _ _ hs).mono ?_
        rintro e w1 ⟨rfl, hb1⟩
        have H1 := H.up hb1
        clear H hb1 c0 c1
        go_wp2_with fail
        go_roundw
        case rel => exact ⟨k + 1, by omega, by go_num, HA, H1⟩
        case measure => simp [intOf]; omega
      · have HA := Lib.hid (firstIdx_at hlt hall hp)
        clear hall
        go_wp2_with fail
        refine (rowOkFn_any _ _ hs).mono ?_
        rintro e w1 ⟨rfl, hb1⟩
        have H1 := H.up hb1
        clear H hb1 c0 c1
        go_wp2_with fail
        go_ret
        exact ⟨ret_int HA.out.symm, H1.below⟩
    · obtain rfl : k = xs.length := by omega
      have HA := Lib.hid hall.none
      clear hall
      go_wp2_with fail
      go_ret
      exact ⟨ret_int HA.out.symm, H.below⟩
theorem hasVal_any (a : Option Addr) (n cap : Nat) (xs : List Val) (bs : List Nat) (w : World) (h : SliceRep valE w a n cap xs bs) :
    Calls Try.prog 123 #[.slice a n cap, .func (.func 124) #[] #[]] w fun e w' => e = .returned (.bool (xs.any badVal)) ∧ Below w.heap.size w w' := by
  have HR := Lib.hid (firstIdx_any badVal xs)
  go_enter Try.func123, Try.ntmps123
  go_wp2_with fail
  refine (idxVal_any _ _ _ xs _ _ h).mono ?_
  rintro e w1 ⟨rfl, hb1⟩
  go_wp2_with fail
  go_ret
  exact ⟨ret_bool HR.out, hb1⟩

def rowOk (r : List Val) : Bool := decide (r.length ≤ 6) && !r.any badVal
set_option maxHeartbeats 400000 in
theorem rowOkI_any (a : Option Addr) (n cap : Nat) (xs : List Val) (bs : List Nat) (w : World) (h : SliceRep valE w a n cap xs bs) :
    Calls Try.prog 95 #[.agg #[.slice a n cap]] w fun e w' => e = .returned (.bool (rowOk xs)) ∧ Below w.heap.size w w' := by
  have hmax := h.max
  obtain rfl := h.1
  have H0 := (Held.start w).box_ #[.slice a xs.length cap] 50
  by_cases hl : xs.length ≤ 6
  · have HR := Lib.hid (show rowOk xs = !xs.any badVal by simp [rowOk, hl])
    go_enter Try.func95, Try.ntmps95
    go_wp2_with fail
    refine (hasVal_any _ _ _ xs _ _ (h.up H0.below)).mono ?_
    rintro e w1 ⟨rfl, hb1⟩
    go_wp2_with fail
    go_ret
    exact ⟨ret_bool HR.out.symm, (H0.up hb1).below⟩
  · have HR := Lib.hid (show rowOk xs = false by simp [rowOk, hl])
    go_enter Try.func95, Try.ntmps95
    go_wp2_with fail
    go_ret
    exact ⟨ret_bool HR.out.symm, H0.below⟩

set_option maxHeartbeats 800000 in
theorem rowOkS_any (a : Option Addr) (n cap : Nat) (xs : List Val) (bs : List Nat) (w : World) (h : SliceRep valE w a n cap xs bs) :
    Calls Try.prog 74 #[.agg #[.slice a n cap]] w fun e w' => e = .returned (.bool (rowOk xs)) ∧ Below w.heap.size w w' := by
  have hmax := h.max
  obtain rfl := h.1
  have H0 := (Held.start w).box_ #[.slice a xs.length cap] 50
  by_cases hl : xs.length ≤ 6
  · go_enter Try.func74, Try.ntmps74
    go_wp2_with fail
    go_loopw [12] (fun i W => ∃ k : Nat, k ≤ xs.length ∧ i = .int .i64 k ∧ NoneTo badVal xs k ∧ Held w [] W) (fun i _ => xs.length - (intOf i).toNat)
    case atStart => exact ⟨0, Nat.zero_le _, rfl, .zero, H0.drop⟩
    case round =>
      obtain ⟨k, hk, rfl, hall, H⟩ := hrel
      by_cases hlt : k < xs.length
      · obtain ⟨g, off, rfl, c0, c1, hs, hn⟩ := (h.up H.below).val hlt
        cases hp : badVal xs[k]
        · have HA := hall.succ hlt hp
          have hv : valOk xs[k] = true := by simpa [badVal] using hp
          clear hall
          have H1 := H.alloc (.cells #[.int .i64 xs[k].n, .string xs[k].s] 37)
          go_wp2_with fail
          refine (valueOkS_any _ _ _ hs).mono ?_
          rintro e w1 ⟨rfl, hb1⟩
          have H2 := H1.up hb1
          clear H H1 hb1 c0 c1
          go_wp2_with fail
          go_roundw
          case rel => exact ⟨k + 1, by omega, by go_num, HA, H2⟩
          case measure => simp [intOf]; omega
        · have HR := Lib.hid (show rowOk xs = false by simp [rowOk, any_at hlt hp])
          have hv : valOk xs[k] = false := by simpa [badVal] using hp
          clear hall hp
          have H1 := H.alloc (.cells #[.int .i64 xs[k].n, .string xs[k].s] 37)
          go_wp2_with fail
          refine (valueOkS_any _ _ _ hs).mono ?_
          rintro e w1 ⟨rfl, hb1⟩
          have H2 := H1.up hb1
          clear H H1 hb1 c0 c1
          go_wp2_with fail
          go_ret
          exact ⟨ret_bool HR.out.symm, H2.below⟩
      · obtain rfl : k = xs.length := by omega
        have HR := Lib.hid (show rowOk xs = true by simp [rowOk, hall.all, hl])
        clear hall
        go_wp2_with fail
        go_ret
        exact ⟨ret_bool HR.out.symm, H.below⟩
  · have HR := Lib.hid (show rowOk xs = false by simp [rowOk, hl])
    go_enter Try.func74, Try.ntmps74
    go_wp2_with fail
    go_ret
    exact ⟨ret_bool HR.out.symm, H0.below⟩
end Go.Proofs.Ytcgickpnckedcaa

/- The walks of the laws over values: each returns true. -/
import Derived.Test.YtgealkbfaffedaaText
namespace Go.Proofs.Ytgealkbfaffedaa
open Go.RowKit
set_option linter.unusedVariables false

theorem eqVal_refl (v : Val) : eqVal v v = true := by simp [eqVal]

set_option maxHeartbeats 400000 in
theorem lawFnExactValueOk.walk (w : World) (cs : Array Value) (v : Val) (bs : List Nat) (h : valE.rep w cs.toList v bs) :
    Calls Try.prog 5 #[.agg cs] w fun e w' => e = .returned (.bool true) ∧ Below w.heap.size w w' := by
  obtain ⟨hcs, hn, hs, rfl⟩ := valE_rep.1 h
  obtain rfl : cs = #[.int .i64 v.n, .string v.s] := by cases cs; simpa using hcs
  clear h hcs
  have b0 := (Below.refl w.heap.size w).alloc (Nat.le_refl _) (.cells #[.int .i64 v.n, .string v.s] 24)
  have x0 := Box.new w #[.int .i64 v.n, .string v.s] 24
  go_enter Try.func5, Try.ntmps5
  go_wp2_with fail
  generalize w.alloc (.cells #[.int .i64 v.n, .string v.s] 24) = w0 at *
  refine (szValue_any v _ _ hs (by omega) (by omega)).mono ?_
  rintro e w1 ⟨rfl, hb1⟩
  have b1 := below_up b0 hb1 (Nat.le_refl _)
  have x1 := x0.up hb1
  have c1 := x1.cell
  clear hb1 x0 b0
  by_cases hneg : szVal v 1048576 < 0
  · go_wp2_with fail
    go_ret
    exact ⟨rfl, b1⟩
  · go_wp2_with fail
    refine (toValue_any v _).mono ?_
    rintro e w2 ⟨rfl, hb2⟩
    have b2 := below_up b1 hb2 (Nat.le_refl _)
    have x2 := x1.up hb2
    have c2 := x2.cell
    clear hb2 x1 b1 c1
    go_wp2_with fail
    refine (valueOkS_any _ _ _ hs).mono ?_
    rintro e w3 ⟨rfl, hb3⟩
    have b3 := below_up b2 hb3 (Nat.le_refl _)
    have x3 := x2.up hb3
    have c3 := x3.cell
    clear hb3 x2 b2 c2
    go_wp2_with fail
    refine (toValue_any v _).mono ?_
    rintro e w4 ⟨rfl, hb4⟩
    have b4 := below_up b3 hb4 (Nat.le_refl _)
    clear hb4 x3 b3 c3
    go_wp2_with fail
    refine (valueOkI_any _ _ _ hs).mono ?_
    rintro e w5 ⟨rfl, hb5⟩
    have b5 := below_up b4 hb5 (Nat.le_refl _)
    clear hb5 b4
    go_wp2_with fail
    all_goals
      go_ret
      exact ⟨rfl, b5⟩

set_option maxHeartbeats 400000 in
theorem lawFnExactValueText.walk (w : World) (cs : Array Value) (v : Val) (bs : List Nat) (h : valE.rep w cs.toList v bs) :
    Calls Try.prog 7 #[.agg cs] w fun e w' => e = .returned (.bool true) ∧ Below w.heap.size w w' := by
  obtain ⟨hcs, hn, hs, rfl⟩ := valE_rep.1 h
  obtain rfl : cs = #[.int .i64 v.n, .string v.s] := by cases cs; simpa using hcs
  clear h hcs
  have b0 := (Below.refl w.heap.size w).alloc (Nat.le_refl _) (.cells #[.int .i64 v.n, .string v.s] 24)
  have x0 := Box.new w #[.int .i64 v.n, .string v.s] 24
  go_enter Try.func7, Try.ntmps7
  go_wp2_with fail
  generalize w.alloc (.cells #[.int .i64 v.n, .string v.s] 24) = w0 at *
  refine (szValue_any v _ _ hs (by omega) (by omega)).mono ?_
  rintro e w1 ⟨rfl, hb1⟩
  have b1 := below_up b0 hb1 (Nat.le_refl _)
  have x1 := x0.up hb1
  have c1 := x1.cell
  clear hb1 x0 b0
  by_cases hneg : szVal v 1048576 < 0
  · go_wp2_with fail
    go_ret
    exact ⟨rfl, b1⟩
  · go_wp2_with fail
    refine (toValue_any v _).mono ?_
    rintro e w2 ⟨rfl, hb2⟩
    have b2 := below_up b1 hb2 (Nat.le_refl _)
    have x2 := x1.up hb2
    have c2 := x2.cell
    clear hb2 x1 b1 c1
    go_wp2_with fail
    refine (valueTextS_any v _ hs).mono ?_
    rintro e w3 ⟨rfl, hb3⟩
    have b3 := below_up b2 hb3 (Nat.le_refl _)
    have x3 := x2.up hb3
    have c3 := x3.cell
    clear hb3 x2 b2 c2
    go_wp2_with fail
    refine (toValue_any v _).mono ?_
    rintro e w4 ⟨rfl, hb4⟩
    have b4 := below_up b3 hb4 (Nat.le_refl _)
    clear hb4 x3 b3 c3
    go_wp2_with fail
    refine (valueTextI_any v _ hs).mono ?_
    rintro e w5 ⟨rfl, hb5⟩
    have b5 := below_up b4 hb5 (Nat.le_refl _)
    clear hb5 b4
    go_wp2_with fail
    all_goals
      go_ret
      exact ⟨rfl, b5⟩

set_option maxHeartbeats 400000 in
theorem lawFnExactTextValue.walk (w : World) (s : ByteArray) (hs : s.size ≤ maxLen) :
    Calls Try.prog 8 #[.string s] w fun e w' => e = .returned (.bool true) ∧ Below w.heap.size w w' := by
  have hs' := hs
  unfold maxLen at hs'
  by_cases hl : 1048576 < s.size
  · go_enter Try.func8, Try.ntmps8
    go_wp2_with fail
    go_ret
    exact ⟨rfl, Below.refl _ _⟩
  · have hq := eqVal_refl (textVal s).1
    go_enter Try.func8, Try.ntmps8
    go_wp2_with fail
    refine (textValueS_any s _ hs).mono ?_
    rintro e w1 ⟨rfl, hb1⟩
    unfold retVal
    go_wp2_with fail
    have b1 := hb1.alloc hb1.size (.cells #[.int .i64 (textVal s).1.n, .string (textVal s).1.s] 27)
    have x1 := Box.new w1 #[.int .i64 (textVal s).1.n, .string (textVal s).1.s] 27
    generalize w1.alloc (.cells #[.int .i64 (textVal s).1.n, .string (textVal s).1.s] 27) = W1 at *
    have g1 := Nat.le_refl w1.heap.size
    generalize hg1 : w1.heap.size = p1 at *
    clear hg1 hb1
    refine (textValueI_any s _ hs).mono ?_
    rintro e w2 ⟨rfl, hb2⟩
    unfold retVal
    have b2 := below_up b1 hb2 (Nat.le_refl _)
    have x2 := x1.up hb2
    have b3 := b2.alloc b2.size (.cells #[.int .i64 (textVal s).1.n, .string (textVal s).1.s] 27)
    have c3 := (x2.alloc (.cells #[.int .i64 (textVal s).1.n, .string (textVal s).1.s] 27)).cell
    clear hb2 b1 x1 x2 b2
    go_wp2_with fail
    refine (eqValue_any (textVal s).1 (textVal s).1 _).mono ?_
    rintro e w4 ⟨rfl, hb4⟩
    have b4 := below_up b3 hb4 (Nat.le_refl _)
    clear hb4 b3 c3
    go_wp2_with fail
    go_ret
    exact ⟨rfl, b4⟩

set_option maxHeartbeats 800000 in
theorem lawFnExactValueLess.walk (w : World) (ca : Array Value) (a : Val) (ba : List Nat) (ha : valE.rep w ca.toList a ba) (cb : Array Value) (b : Val) (bb : List Nat) (hb : valE.rep w cb.toList b bb) :
    Calls Try.prog 6 #[.agg ca, .agg cb] w fun e w' => e = .returned (.bool true) ∧ Below w.heap.size w w' := by
  obtain ⟨hca, hna, hsa, rfl⟩ := valE_rep.1 ha
  obtain rfl : ca = #[.int .i64 a.n, .string a.s] := by cases ca; simpa using hca
  obtain ⟨hcb, hnb, hsb, rfl⟩ := valE_rep.1 hb
  obtain rfl : cb = #[.int .i64 b.n, .string b.s] := by cases cb; simpa using hcb
  clear ha hca hb hcb
  have b0 := ((Below.refl w.heap.size w).alloc (Nat.le_refl _) (.cells #[.int .i64 a.n, .string a.s] 24)).alloc (by simp) (.cells #[.int .i64 b.n, .string b.s] 24)
  have x0 := (Box.new w #[.int .i64 a.n, .string a.s] 24).alloc (.cells #[.int .i64 b.n, .string b.s] 24)
  have y0 := Box.new (w.alloc (.cells #[.int .i64 a.n, .string a.s] 24)) #[.int .i64 b.n, .string b.s] 24
  have hz : (w.alloc (.cells #[.int .i64 a.n, .string a.s] 24)).heap.size = w.heap.size + 1 := by simp
  rw [hz] at y0
  clear hz
  go_enter Try.func6, Try.ntmps6
  go_wp2_with fail
  generalize (w.alloc (.cells #[.int .i64 a.n, .string a.s] 24)).alloc (.cells #[.int .i64 b.n, .string b.s] 24) = w0 at *
  refine (szValue_any a _ _ hsa (by omega) (by omega)).mono ?_
  rintro e w1 ⟨rfl, hb1⟩
  have b1 := below_up b0 hb1 (Nat.le_refl _)
  have x1 := x0.up hb1
  have y1 := y0.up hb1
  have c1 := x1.cell
  have d1 := y1.cell
  clear hb1 x0 b0 y0
  by_cases hneg : szVal a 1048576 < 0
  · go_wp2_with fail
    go_ret
    exact ⟨rfl, b1⟩
  · have hle := (szVal_le (v := a) (left := 1048576) (by omega)).1
    go_wp2_with fail
    refine (szValue_any b _ _ hsb (by omega) hle).mono ?_
    rintro e w2 ⟨rfl, hb2⟩
    have b2 := below_up b1 hb2 (Nat.le_refl _)
    have x2 := x1.up hb2
    have y2 := y1.up hb2
    have c2 := x2.cell
    have d2 := y2.cell
    clear hb2 x1 b1 y1 c1 d1
    by_cases hneg2 : szVal b (szVal a 1048576) < 0
    · go_wp2_with fail
      go_ret
      exact ⟨rfl, b2⟩
    · have H : Held w [(w.heap.size, #[.int .i64 a.n, .string a.s]), (w.heap.size + 1, #[.int .i64 b.n, .string b.s])] w2 := ⟨b2, by simp [x2, y2]⟩
      clear b2 x2 y2 c2 d2
      go_wp2_with fail
      go_region_held3 (fun W => Held w [(w.heap.size, #[.int .i64 a.n, .string a.s]), (w.heap.size + 1, #[.int .i64 b.n, .string b.s])] W ∧ (∀ o, W.cell? ⟨w.heap.size, o, none⟩ = #[.int .i64 a.n, .string a.s][o]?) ∧ ∀ o, W.cell? ⟨w.heap.size + 1, o, none⟩ = #[.int .i64 b.n, .string b.s][o]?)
        (first | exact Held.s2 (Held.up (by assumption) (And.left (by assumption))) | exact H.drew.s2)
        (first | (go_at_call 21; refine (toValue_any _ _).mono ?_; rintro e w3 ⟨rfl, hb3⟩) | (go_at_call 23; refine (valueLessS_any a b _ hsa hsb).mono ?_; rintro e w3 ⟨rfl, hb3⟩))
      rename_i hh
      replace hh := hh.1
      clear H hb3
      go_wp2_with fail
      go_region_held3 (fun W => Held w [(w.heap.size, #[.int .i64 a.n, .string a.s]), (w.heap.size + 1, #[.int .i64 b.n, .string b.s])] W ∧ (∀ o, W.cell? ⟨w.heap.size, o, none⟩ = #[.int .i64 a.n, .string a.s][o]?) ∧ ∀ o, W.cell? ⟨w.heap.size + 1, o, none⟩ = #[.int .i64 b.n, .string b.s][o]?)
        (first | exact Held.s2 (Held.up (by assumption) (And.left (by assumption))) | exact hh.drew.s2)
        (first | (go_at_call 21; refine (toValue_any _ _).mono ?_; rintro e w3 ⟨rfl, hb3⟩) | (go_at_call 24; refine (valueLessI_any a b _ hsa hsb).mono ?_; rintro e w3 ⟨rfl, hb3⟩))
      rename_i hk
      replace hk := hk.1.below
      clear hh hb3
      go_wp2_with fail
      all_goals
        go_ret
        exact ⟨rfl, hk⟩
end Go.Proofs.Ytgealkbfaffedaa

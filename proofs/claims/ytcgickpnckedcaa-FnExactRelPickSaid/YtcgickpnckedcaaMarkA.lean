/- The laws' marks: MarkA (printed by genmark.py) -/
import Derived.Test.YtcgickpnckedcaaMarkText
import Derived.Test.YtcgickpnckedcaaGenB
import Derived.Test.YtcgickpnckedcaaAbsOld
namespace Go.Proofs.Ytcgickpnckedcaa
open Go.RowKit
set_option linter.unusedVariables false
set_option linter.unusedSimpArgs false
set_option maxRecDepth 100000

def markValue (x : Val) (k : Int) : Val × Int := (⟨k, markText (k + 1)⟩, k + 1 + 1)
def cntValue (x : Val) : Nat := 1 + 1
theorem markValue_cnt (x : Val) (k : Int) : (markValue x k).2 = k + cntValue x := by
  simp only [markValue, cntValue]
  try omega
set_option maxHeartbeats 4000000 in
theorem markValueS_any (a : Option Addr) (n cap : Nat) (xs : List (Val)) (bs : List Nat) (k : Int) (lo : Nat) (w : World) (h : SliceRep valE w a n cap xs bs) (hF : Fresh lo w bs) (k0 : 0 ≤ k) (k1 : k + cntL cntValue xs ≤ 4611686018427387904) :
    Calls Try.prog 81 #[.slice a n cap, .int .i64 k] w fun e w' => e = .returned (.int .i64 (markL markValue xs k).2) ∧ SliceRep valE w' a n cap (markL markValue xs k).1 bs ∧ Only bs w w' := by
  have hmax := h.max
  obtain rfl := h.1
  go_enter Try.func81, Try.ntmps81
  go_wp2_with fail
  go_loopw [1, 5] (fun l i W => ∃ (j : Nat), j ≤ xs.length ∧ i = .int .i64 j ∧ l = .int .i64 (markK markValue xs k j) ∧ SliceRep valE W a xs.length cap (markTo markValue xs k j) bs ∧ Only bs w W) (fun _ i _ => xs.length - (intOf i).toNat)
  case atStart => exact ⟨0, Nat.zero_le _, rfl, by rw [markK_zero], by rw [markTo_zero]; exact h, Only.refl _ _⟩
  case round =>
    obtain ⟨j, hj, rfl, rfl, hS, hO⟩ := hrel
    by_cases hlt : j < xs.length
    · obtain ⟨g, off, _, _, rfl, _⟩ := h.get hlt
      have HF := hF.only hO
      obtain ⟨q0, q1⟩ := markK_bound markValue markValue_cnt k0 k1 hlt
      have hat := markTo_at markValue (k := k) hlt
      have HS := Lib.hid (markTo_succ markValue (k := k) hlt)
      have HK := Lib.hid (markK_succ markValue (k := k) hlt)
      have hl := markTo_len markValue xs k j
      have NJ := Lib.hid (show j + 1 ≤ xs.length by omega)
      have i0 : (0 : Int) ≤ (j : Int) := by omega
      have i1 : (j : Int) < (xs.length : Int) := by omega
      generalize markTo markValue xs k j = ys at hS hat HS hl
      generalize markK markValue xs k j = q at q0 q1 HS HK
      generalize xs[j] = x at hat HS HK q1
      rw [← set_same hat] at hS
      have hjy : j < ys.length := by omega
      clear hat
      have Q1 := Lib.hid q1
      simp only [cntValue] at q1
      obtain ⟨c0, d0⟩ := hS.cellAt2 HF hjy (c := 0) rfl
      obtain ⟨hS0, o0⟩ := hS.put2 HF hjy 0 (.int .i64 (q)) (⟨q, x.s⟩ : Val) rfl (wf64 (by omega) (by omega)) rfl
      simp only [show Enc.size valE = 2 from rfl, Nat.add_zero] at c0 d0 hS0 o0
      clear hS
      have hS := hS0
      clear hS0
      replace hO := hO.trans o0
      replace HF := HF.only o0
      clear o0
      go_wp2_with fail
      refine (markText_any _ _ (by omega)).mono ?_
      rintro e w1 ⟨rfl, hb⟩
      replace hS := hS.up hb
      replace hO := hO.trans (Only.below hb)
      replace HF := HF.up hb
      clear hb c0 d0
      obtain ⟨c1, d1⟩ := hS.cellAt2 HF hjy (c := 1) rfl
      obtain ⟨hS1, o1⟩ := hS.put2 HF hjy 1 (.string (markText (q + 1))) (⟨q, markText (q + 1)⟩ : Val) rfl (wfText (by omega)) rfl
      simp only [show Enc.size valE = 2 from rfl, Nat.add_zero] at c1 d1 hS1 o1
      clear hS
      have hS := hS1
      clear hS1
      replace hO := hO.trans o1
      replace HF := HF.only o1
      clear o1
      go_wp2_with fail
      go_roundw
      case rel => exact ⟨j + 1, NJ.out, by go_num, by rw [HK.out]; rfl, by rw [← HS.out]; exact hS, hO⟩
      case measure => simp [intOf]; omega
    · obtain rfl : j = xs.length := by omega
      rw [markTo_done] at hS
      go_wp2_with fail
      go_ret
      exact ⟨ret_int (markK_done _ _ _), hS, hO⟩

def markRow (x : List Val) (k : Int) : List Val × Int := ((markL markValue x (k)).1, (markL markValue x (k)).2)
def cntRow (x : List Val) : Nat := cntL cntValue x
theorem markRow_cnt (x : List Val) (k : Int) : (markRow x k).2 = k + cntRow x := by
  simp only [markRow, cntRow, markL_cnt markValue markValue_cnt]
  try omega
set_option maxHeartbeats 4000000 in
theorem markRowS_any (a : Option Addr) (n cap : Nat) (xs : List (List Val)) (bs : List Nat) (k : Int) (lo : Nat) (w : World) (h : SliceRep rowE w a n cap xs bs) (hF : Fresh lo w bs) (k0 : 0 ≤ k) (k1 : k + cntL cntRow xs ≤ 4611686018427387904) :
    Calls Try.prog 66 #[.slice a n cap, .int .i64 k] w fun e w' => e = .returned (.int .i64 (markL markRow xs k).2) ∧ SliceRep rowE w' a n cap (markL markRow xs k).1 bs ∧ Only bs w w' := by
  have hmax := h.max
  obtain rfl := h.1
  go_enter Try.func66, Try.ntmps66
  go_wp2_with fail
  go_loopw [1, 5] (fun l i W => ∃ (j : Nat), j ≤ xs.length ∧ i = .int .i64 j ∧ l = .int .i64 (markK markRow xs k j) ∧ SliceRep rowE W a xs.length cap (markTo markRow xs k j) bs ∧ Only bs w W) (fun _ i _ => xs.length - (intOf i).toNat)
  case atStart => exact ⟨0, Nat.zero_le _, rfl, by rw [markK_zero], by rw [markTo_zero]; exact h, Only.refl _ _⟩
  case round =>
    obtain ⟨j, hj, rfl, rfl, hS, hO⟩ := hrel
    by_cases hlt : j < xs.length
    · obtain ⟨g, off, _, _, rfl, _⟩ := h.get hlt
      have HF := hF.only hO
      obtain ⟨q0, q1⟩ := markK_bound markRow markRow_cnt k0 k1 hlt
      have hat := markTo_at markRow (k := k) hlt
      have HS := Lib.hid (markTo_succ markRow (k := k) hlt)
      have HK := Lib.hid (markK_succ markRow (k := k) hlt)
      have hl := markTo_len markRow xs k j
      have NJ := Lib.hid (show j + 1 ≤ xs.length by omega)
      have i0 : (0 : Int) ≤ (j : Int) := by omega
      have i1 : (j : Int) < (xs.length : Int) := by omega
      generalize markTo markRow xs k j = ys at hS hat HS hl
      generalize markK markRow xs k j = q at q0 q1 HS HK
      generalize xs[j] = x at hat HS HK q1
      rw [← set_same hat] at hS
      have hjy : j < ys.length := by omega
      clear hat
      have Q1 := Lib.hid q1
      simp only [cntRow] at q1
      obtain ⟨a0, n0, p0, b0, c0, r0, F0, next0⟩ := hS.nest2 HF hjy (c := 0) rfl
      simp only [show Enc.size rowE = 1 from rfl, Nat.mul_one, Nat.add_zero] at c0
      go_wp2_with fail
      refine (markValueS_any _ _ _ _ _ _ lo _ r0 F0 (by omega) (by omega)).mono ?_
      rintro e w0 ⟨rfl, rr, oo⟩
      obtain ⟨hS0, o0⟩ := next0 w0 _ ((markL markValue x (q)).1 : List Val) rr oo rfl
      have v0 := markL_cnt markValue markValue_cnt x (q)
      have y0 : 0 ≤ (markL markValue x (q)).2 := by omega
      have z0 : (markL markValue x (q)).2 + ((0 : Nat) : Int) ≤ 4611686018427387904 := by omega
      clear hS
      have hS := hS0
      replace hO := hO.trans o0
      replace HF := HF.only o0
      clear hS0 o0 rr oo r0 F0 next0 v0 c0
      go_wp2_with fail
      go_roundw
      case rel => exact ⟨j + 1, NJ.out, by go_num, by rw [HK.out]; rfl, by rw [← HS.out]; exact hS, hO⟩
      case measure => simp [intOf]; omega
    · obtain rfl : j = xs.length := by omega
      rw [markTo_done] at hS
      go_wp2_with fail
      go_ret
      exact ⟨ret_int (markK_done _ _ _), hS, hO⟩

def markDRow (x : List Val) (k : Int) : List Val × Int := ((markL markValue x (k)).1, (markL markValue x (k)).2)
def cntDRow (x : List Val) : Nat := cntL cntValue x
theorem markDRow_cnt (x : List Val) (k : Int) : (markDRow x k).2 = k + cntDRow x := by
  simp only [markDRow, cntDRow, markL_cnt markValue markValue_cnt]
  try omega
set_option maxHeartbeats 4000000 in
theorem markDRow_any (cs : List Value) (x : List Val) (bs : List Nat) (k : Int) (lo : Nat) (w : World) (h : rowE.rep w cs x bs) (hF : Fresh lo w bs) (k0 : 0 ≤ k) (k1 : k + cntDRow x ≤ 4611686018427387904) :
    Calls Try.prog 35 #[.agg cs.toArray, .int .i64 k] w fun e w' => e = .returned (.int .i64 (markDRow x k).2) ∧ rowE.rep w' cs (markDRow x k).1 bs ∧ Only bs w w' := by
  have hr := h
  have hlt := rowE.lt h
  obtain ⟨sa0, sn0, sc0, sb0, hcs, _, _⟩ := Row_rep.1 h
  subst hcs
  clear h
  simp only [cntDRow] at k1
  have H := ((Held.start w).box_ #[.slice sa0 sn0 sc0] 50)
  have hal := (Below.refl w.heap.size w).alloc (Nat.le_refl _) (.cells #[.slice sa0 sn0 sc0] 50)
  have H2 := H.s1
  have bx0 := H2.2 0
  replace hr := rowE.up hr hal
  replace hF := hF.up hal
  have hO : Only bs w _ := Only.below hal
  clear hal H H2
  go_enter Try.func35, Try.ntmps35
  obtain ⟨a0, n0, p0, b0, e0, r0, F0, next0⟩ := Enc.nest hr hF (c := 0) rfl
  simp only [List.getElem?_cons_zero, List.getElem?_cons_succ, Option.some.injEq, Value.slice.injEq] at e0
  obtain ⟨rfl, rfl, rfl⟩ := e0
  go_wp2_with fail
  refine (markValueS_any _ _ _ _ _ _ lo _ r0 F0 (by omega) (by omega)).mono ?_
  rintro e w1 ⟨rfl, rr, oo⟩
  obtain ⟨hr0, o0⟩ := next0 w1 _ ((markL markValue x (k)).1 : List Val) rr oo rfl
  clear hr
  have hr := hr0
  replace hO := hO.trans o0
  replace hF := hF.only o0
  clear hr0 o0 rr oo r0 F0 next0
  go_wp2_with fail
  go_ret
  exact ⟨rfl, hr, hO⟩

def markDRel (x : Relt) (k : Int) : Relt × Int := (⟨x.arity, (markL markRow x.rows (k)).1⟩, (markL markRow x.rows (k)).2)
def cntDRel (x : Relt) : Nat := cntL cntRow x.rows
theorem markDRel_cnt (x : Relt) (k : Int) : (markDRel x k).2 = k + cntDRel x := by
  simp only [markDRel, cntDRel, markL_cnt markRow markRow_cnt]
  try omega
set_option maxHeartbeats 4000000 in
theorem markDRel_any (cs : List Value) (x : Relt) (bs : List Nat) (k : Int) (lo : Nat) (w : World) (h : relE.rep w cs x bs) (hF : Fresh lo w bs) (k0 : 0 ≤ k) (k1 : k + cntDRel x ≤ 4611686018427387904) :
    Calls Try.prog 24 #[.agg cs.toArray, .int .i64 k] w fun e w' => e = .returned (.int .i64 (markDRel x k).2) ∧ relE.rep w' cs (markDRel x k).1 bs ∧ Only bs w w' := by
  have hr := h
  have hlt := relE.lt h
  obtain ⟨sa0, sn0, sc0, sb0, hcs, _, _, _⟩ := Rel_rep.1 h
  subst hcs
  clear h
  simp only [cntDRel] at k1
  have H := ((Held.start w).box_ #[.int .i64 x.arity, .slice sa0 sn0 sc0] 29)
  have hal := (Below.refl w.heap.size w).alloc (Nat.le_refl _) (.cells #[.int .i64 x.arity, .slice sa0 sn0 sc0] 29)
  have H2 := H.s1
  have bx0 := H2.2 0
  have bx1 := H2.2 1
  replace hr := relE.up hr hal
  replace hF := hF.up hal
  have hO : Only bs w _ := Only.below hal
  clear hal H H2
  go_enter Try.func24, Try.ntmps24
  obtain ⟨a0, n0, p0, b0, e0, r0, F0, next0⟩ := Enc.nest hr hF (c := 1) rfl
  simp only [List.getElem?_cons_zero, List.getElem?_cons_succ, Option.some.injEq, Value.slice.injEq] at e0
  obtain ⟨rfl, rfl, rfl⟩ := e0
  go_wp2_with fail
  refine (markRowS_any _ _ _ _ _ _ lo _ r0 F0 (by omega) (by omega)).mono ?_
  rintro e w1 ⟨rfl, rr, oo⟩
  obtain ⟨hr0, o0⟩ := next0 w1 _ (⟨x.arity, (markL markRow x.rows (k)).1⟩ : Relt) rr oo rfl
  clear hr
  have hr := hr0
  replace hO := hO.trans o0
  replace hF := hF.only o0
  clear hr0 o0 rr oo r0 F0 next0
  go_wp2_with fail
  go_ret
  exact ⟨rfl, hr, hO⟩

end Go.Proofs.Ytcgickpnckedcaa

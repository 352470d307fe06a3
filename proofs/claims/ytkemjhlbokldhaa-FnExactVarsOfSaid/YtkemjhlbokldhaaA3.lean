/- Lemmas of the walks, part 3. -/
import Derived.Test.YtkemjhlbokldhaaA2
import Derived.Deep.RegionHeld3
import Derived.Shelf.Strings.Builder1
import Derived.Shelf.Strings.Builder2
import Derived.Shelf.Small.Bits
import Derived.Shelf.Small.Strs
import Derived.Shelf.Strconv.Itoa0
import Derived.Shelf.Strings.Search1
import Derived.Shelf.Sort.Plain
import Derived.Shelf.Slices.CompactS
import Derived.Shelf.Slices.Cells
import Derived.Shelf.Slices.In.SortNone
import Derived.Test.YtkemjhlbokldhaaRows
import Derived.Laws.CopyRow
import Derived.Laws.NewBlocks
import Derived.Lib.AppendZerosOnto
import Derived.Lib.Overlaps
import Derived.Lib.SliceRun
import Derived.Lib.JoinLaws
import Derived.Shelf.Spec.SlicesInsert
import Derived.Deep.RegionLaw
import Derived.Sort.Walk0
import Derived.Lib.AppendStr
import Derived.Lib.ConvBytes
import Derived.Lib.BufferRead
import Derived.Laws.Small
/- The laws' marks: MarkF (printed by genmark.py) -/
namespace Go.Proofs.Ytkemjhlbokldhaa
open Go.RowKit
set_option linter.unusedVariables false
set_option linter.unusedSimpArgs false
set_option maxRecDepth 100000

def markString (x : ByteArray) (k : Int) : ByteArray × Int := (markText (k), k + 1)
def cntString (x : ByteArray) : Nat := 1
theorem markString_cnt (x : ByteArray) (k : Int) : (markString x k).2 = k + cntString x := by
  simp only [markString, cntString]
  try omega
set_option maxHeartbeats 4000000 in
theorem markStringS_any (a : Option Addr) (n cap : Nat) (xs : List (ByteArray)) (bs : List Nat) (k : Int) (lo : Nat) (w : World) (h : SliceRep strE w a n cap xs bs) (hF : Fresh lo w bs) (k0 : 0 ≤ k) (k1 : k + cntL cntString xs ≤ 4611686018427387904) :
    Calls Try.prog 14 #[.slice a n cap, .int .i64 k] w fun e w' => e = .returned (.int .i64 (markL markString xs k).2) ∧ SliceRep strE w' a n cap (markL markString xs k).1 bs ∧ Only bs w w' := by
  have hmax := h.max
  obtain rfl := h.1
  go_enter Try.func14, Try.ntmps14
  go_wp2_with fail
  go_loopw [1, 5] (fun l i W => ∃ (j : Nat), j ≤ xs.length ∧ i = .int .i64 j ∧ l = .int .i64 (markK markString xs k j) ∧ SliceRep strE W a xs.length cap (markTo markString xs k j) bs ∧ Only bs w W) (fun _ i _ => xs.length - (intOf i).toNat)
  case atStart => exact ⟨0, Nat.zero_le _, rfl, by rw [markK_zero], by rw [markTo_zero]; exact h, Only.refl _ _⟩
  case round =>
    obtain ⟨j, hj, rfl, rfl, hS, hO⟩ := hrel
    by_cases hlt : j < xs.length
    · obtain ⟨g, off, _, _, rfl, _⟩ := h.get hlt
      have HF := hF.only hO
      obtain ⟨q0, q1⟩ := markK_bound markString markString_cnt k0 k1 hlt
      have hat := markTo_at markString (k := k) hlt
      have HS := Lib.hid (markTo_succ markString (k := k) hlt)
      have HK := Lib.hid (markK_succ markString (k := k) hlt)
      have hl := markTo_len markString xs k j
      have NJ := Lib.hid (show j + 1 ≤ xs.length by omega)
      have i0 : (0 : Int) ≤ (j : Int) := by omega
      have i1 : (j : Int) < (xs.length : Int) := by omega
      generalize markTo markString xs k j = ys at hS hat HS hl
      generalize markK markString xs k j = q at q0 q1 HS HK
      generalize xs[j] = x at hat HS HK q1
      rw [← set_same hat] at hS
      have hjy : j < ys.length := by omega
      clear hat
      have Q1 := Lib.hid q1
      simp only [cntString] at q1
      go_wp2_with fail
      refine (markText_any _ _ (by omega)).mono ?_
      rintro e w0 ⟨rfl, hb⟩
      replace hS := hS.up hb
      replace hO := hO.trans (Only.below hb)
      replace HF := HF.up hb
      clear hb 
      obtain ⟨c0, d0⟩ := hS.cellAt2 HF hjy (c := 0) rfl
      obtain ⟨hS0, o0⟩ := hS.put2 HF hjy 0 (.string (markText (q))) (markText (q) : ByteArray) rfl (wfText (by omega)) rfl
      simp only [show Enc.size strE = 1 from rfl, Nat.mul_one, Nat.add_zero] at c0 d0 hS0 o0
      clear hS
      have hS := hS0
      clear hS0
      replace hO := hO.trans o0
      replace HF := HF.only o0
      clear o0
      go_wp2_with fail
      go_roundw
      case rel => exact ⟨j + 1, NJ.out, by go_num, by rw [HK.out]; rfl, by rw [← HS.out]; exact hS, hO⟩
      case measure => simp [intOf]; omega
    · obtain rfl : j = xs.length := by omega
      rw [markTo_done] at hS
      go_wp2_with fail
      go_ret
      exact ⟨ret_int (markK_done _ _ _), hS, hO⟩

def markTerm (x : Termt) (k : Int) : Termt × Int := (⟨markText (k), ⟨k + 1, markText (k + 1 + 1)⟩⟩, k + 1 + 1 + 1)
def cntTerm (x : Termt) : Nat := 1 + 1 + 1
theorem markTerm_cnt (x : Termt) (k : Int) : (markTerm x k).2 = k + cntTerm x := by
  simp only [markTerm, cntTerm]
  try omega
set_option maxHeartbeats 4000000 in
theorem markTermS_any (a : Option Addr) (n cap : Nat) (xs : List (Termt)) (bs : List Nat) (k : Int) (lo : Nat) (w : World) (h : SliceRep termE w a n cap xs bs) (hF : Fresh lo w bs) (k0 : 0 ≤ k) (k1 : k + cntL cntTerm xs ≤ 4611686018427387904) :
    Calls Try.prog 98 #[.slice a n cap, .int .i64 k] w fun e w' => e = .returned (.int .i64 (markL markTerm xs k).2) ∧ SliceRep termE w' a n cap (markL markTerm xs k).1 bs ∧ Only bs w w' := by
  have hmax := h.max
  obtain rfl := h.1
  go_enter Try.func98, Try.ntmps98
  go_wp2_with fail
  go_loopw [1, 5] (fun l i W => ∃ (j : Nat), j ≤ xs.length ∧ i = .int .i64 j ∧ l = .int .i64 (markK markTerm xs k j) ∧ SliceRep termE W a xs.length cap (markTo markTerm xs k j) bs ∧ Only bs w W) (fun _ i _ => xs.length - (intOf i).toNat)
  case atStart => exact ⟨0, Nat.zero_le _, rfl, by rw [markK_zero], by rw [markTo_zero]; exact h, Only.refl _ _⟩
  case round =>
    obtain ⟨j, hj, rfl, rfl, hS, hO⟩ := hrel
    by_cases hlt : j < xs.length
    · obtain ⟨g, off, _, _, rfl, _⟩ := h.get hlt
      have HF := hF.only hO
      obtain ⟨q0, q1⟩ := markK_bound markTerm markTerm_cnt k0 k1 hlt
      have hat := markTo_at markTerm (k := k) hlt
      have HS := Lib.hid (markTo_succ markTerm (k := k) hlt)
      have HK := Lib.hid (markK_succ markTerm (k := k) hlt)
      have hl := markTo_len markTerm xs k j
      have NJ := Lib.hid (show j + 1 ≤ xs.length by omega)
      have i0 : (0 : Int) ≤ (j : Int) := by omega
      have i1 : (j : Int) < (xs.length : Int) := by omega
      generalize markTo markTerm xs k j = ys at hS hat HS hl
      generalize markK markTerm xs k j = q at q0 q1 HS HK
      generalize xs[j] = x at hat HS HK q1
      rw [← set_same hat] at hS
      have hjy : j < ys.length := by omega
      clear hat
      have Q1 := Lib.hid q1
      simp only [cntTerm] at q1
      go_wp2_with fail
      refine (markText_any _ _ (by omega)).mono ?_
      rintro e w0 ⟨rfl, hb⟩
      replace hS := hS.up hb
      replace hO := hO.trans (Only.below hb)
      replace HF := HF.up hb
      clear hb 
      obtain ⟨c0, d0⟩ := hS.cellAt2 HF hjy (c := 0) rfl
      obtain ⟨hS0, o0⟩ := hS.put2 HF hjy 0 (.string (markText (q))) (⟨markText (q), ⟨x.val.n, x.val.s⟩⟩ : Termt) rfl (wfText (by omega)) rfl
      simp only [show Enc.size termE = 3 from rfl, Nat.add_zero] at c0 d0 hS0 o0
      clear hS
      have hS := hS0
      clear hS0
      replace hO := hO.trans o0
      replace HF := HF.only o0
      clear o0
      obtain ⟨c1, d1⟩ := hS.cellAt2 HF hjy (c := 1) rfl
      obtain ⟨hS1, o1⟩ := hS.put2 HF hjy 1 (.int .i64 (q + 1)) (⟨markText (q), ⟨q + 1, x.val.s⟩⟩ : Termt) rfl (wf64 (by omega) (by omega)) rfl
      simp only [show Enc.size termE = 3 from rfl, Nat.add_zero] at c1 d1 hS1 o1
      clear hS
      have hS := hS1
      clear hS1
      replace hO := hO.trans o1
      replace HF := HF.only o1
      clear o1
      go_wp2_with fail
      refine (markText_any _ _ (by omega)).mono ?_
      rintro e w2 ⟨rfl, hb⟩
      replace hS := hS.up hb
      replace hO := hO.trans (Only.below hb)
      replace HF := HF.up hb
      clear hb c0 d0 c1 d1
      obtain ⟨c2, d2⟩ := hS.cellAt2 HF hjy (c := 2) rfl
      obtain ⟨hS2, o2⟩ := hS.put2 HF hjy 2 (.string (markText (q + 1 + 1))) (⟨markText (q), ⟨q + 1, markText (q + 1 + 1)⟩⟩ : Termt) rfl (wfText (by omega)) rfl
      simp only [show Enc.size termE = 3 from rfl, Nat.add_zero] at c2 d2 hS2 o2
      clear hS
      have hS := hS2
      clear hS2
      replace hO := hO.trans o2
      replace HF := HF.only o2
      clear o2
      go_wp2_with fail
      go_roundw
      case rel => exact ⟨j + 1, NJ.out, by go_num, by rw [HK.out]; rfl, by rw [← HS.out]; exact hS, hO⟩
      case measure => simp [intOf]; omega
    · obtain rfl : j = xs.length := by omega
      rw [markTo_done] at hS
      go_wp2_with fail
      go_ret
      exact ⟨ret_int (markK_done _ _ _), hS, hO⟩

def markDAtom (x : Atomt) (k : Int) : Atomt × Int := (⟨x.name, (markL markTerm x.args (k)).1⟩, (markL markTerm x.args (k)).2)
def cntDAtom (x : Atomt) : Nat := cntL cntTerm x.args
theorem markDAtom_cnt (x : Atomt) (k : Int) : (markDAtom x k).2 = k + cntDAtom x := by
  simp only [markDAtom, cntDAtom, markL_cnt markTerm markTerm_cnt]
  try omega
set_option maxHeartbeats 4000000 in
theorem markDAtom_any (cs : List Value) (x : Atomt) (bs : List Nat) (k : Int) (lo : Nat) (w : World) (h : atomE.rep w cs x bs) (hF : Fresh lo w bs) (k0 : 0 ≤ k) (k1 : k + cntDAtom x ≤ 4611686018427387904) :
    Calls Try.prog 39 #[.agg cs.toArray, .int .i64 k] w fun e w' => e = .returned (.int .i64 (markDAtom x k).2) ∧ atomE.rep w' cs (markDAtom x k).1 bs ∧ Only bs w w' := by
  have hr := h
  have hlt := atomE.lt h
  obtain ⟨sa0, sn0, sc0, sb0, hcs, _, _, _⟩ := Atom_rep.1 h
  subst hcs
  clear h
  simp only [cntDAtom] at k1
  have H := ((Held.start w).box_ #[.string x.name, .slice sa0 sn0 sc0] 33)
  have hal := (Below.refl w.heap.size w).alloc (Nat.le_refl _) (.cells #[.string x.name, .slice sa0 sn0 sc0] 33)
  have H2 := H.s1
  have bx0 := H2.2 0
  have bx1 := H2.2 1
  replace hr := atomE.up hr hal
  replace hF := hF.up hal
  have hO : Only bs w _ := Only.below hal
  clear hal H H2
  go_enter Try.func39, Try.ntmps39

  obtain ⟨a0, n0, p0, b0, e0, r0, F0, next0⟩ := Enc.nest hr hF (c := 1) rfl
  simp only [List.getElem?_cons_zero, List.getElem?_cons_succ, Option.some.injEq, Value.slice.injEq] at e0
  obtain ⟨rfl, rfl, rfl⟩ := e0
  go_wp2_with fail
  refine (markTermS_any _ _ _ _ _ _ lo _ r0 F0 (by omega) (by omega)).mono ?_
  rintro e w1 ⟨rfl, rr, oo⟩
  obtain ⟨hr0, o0⟩ := next0 w1 _ (⟨x.name, (markL markTerm x.args (k)).1⟩ : Atomt) rr oo rfl
  clear hr
  have hr := hr0
  replace hO := hO.trans o0
  replace hF := hF.only o0
  clear hr0 o0 rr oo r0 F0 next0
  go_wp2_with fail
  go_ret
  exact ⟨rfl, hr, hO⟩

def markLit (x : Litt) (k : Int) : Litt × Int := (⟨k, ⟨markText (k + 1), (markL markTerm x.atom.args (k + 1 + 1)).1⟩, (markL markTerm x.atom.args (k + 1 + 1)).2, ⟨markText ((markL markTerm x.atom.args (k + 1 + 1)).2 + 1), ⟨(markL markTerm x.atom.args (k + 1 + 1)).2 + 1 + 1, markText ((markL markTerm x.atom.args (k + 1 + 1)).2 + 1 + 1 + 1)⟩⟩, ⟨markText ((markL markTerm x.atom.args (k + 1 + 1)).2 + 1 + 1 + 1 + 1), ⟨(markL markTerm x.atom.args (k + 1 + 1)).2 + 1 + 1 + 1 + 1 + 1, markText ((markL markTerm x.atom.args (k + 1 + 1)).2 + 1 + 1 + 1 + 1 + 1 + 1)⟩⟩⟩, (markL markTerm x.atom.args (k + 1 + 1)).2 + 1 + 1 + 1 + 1 + 1 + 1 + 1)
def cntLit (x : Litt) : Nat := 1 + 1 + cntL cntTerm x.atom.args + 1 + 1 + 1 + 1 + 1 + 1 + 1
theorem markLit_cnt (x : Litt) (k : Int) : (markLit x k).2 = k + cntLit x := by
  simp only [markLit, cntLit, markL_cnt markTerm markTerm_cnt]
  try omega
set_option maxHeartbeats 4000000 in
theorem markLitS_any (a : Option Addr) (n cap : Nat) (xs : List (Litt)) (bs : List Nat) (k : Int) (lo : Nat) (w : World) (h : SliceRep litE w a n cap xs bs) (hF : Fresh lo w bs) (k0 : 0 ≤ k) (k1 : k + cntL cntLit xs ≤ 4611686018427387904) :
    Calls Try.prog 40 #[.slice a n cap, .int .i64 k] w fun e w' => e = .returned (.int .i64 (markL markLit xs k).2) ∧ SliceRep litE w' a n cap (markL markLit xs k).1 bs ∧ Only bs w w' := by
  have hmax := h.max
  obtain rfl := h.1
  go_enter Try.func40, Try.ntmps40
  go_wp2_with fail
  go_loopw [1, 5] (fun l i W => ∃ (j : Nat), j ≤ xs.length ∧ i = .int .i64 j ∧ l = .int .i64 (markK markLit xs k j) ∧ SliceRep litE W a xs.length cap (markTo markLit xs k j) bs ∧ Only bs w W) (fun _ i _ => xs.length - (intOf i).toNat)
  case atStart => exact ⟨0, Nat.zero_le _, rfl, by rw [markK_zero], by rw [markTo_zero]; exact h, Only.refl _ _⟩
  case round =>
    obtain ⟨j, hj, rfl, rfl, hS, hO⟩ := hrel
    by_cases hlt : j < xs.length
    · obtain ⟨g, off, _, _, rfl, _⟩ := h.get hlt
      have HF := hF.only hO
      obtain ⟨q0, q1⟩ := markK_bound markLit markLit_cnt k0 k1 hlt
      have hat := markTo_at markLit (k := k) hlt
      have HS := Lib.hid (markTo_succ markLit (k := k) hlt)
      have HK := Lib.hid (markK_succ markLit (k := k) hlt)
      have hl := markTo_len markLit xs k j
      have NJ := Lib.hid (show j + 1 ≤ xs.length by omega)
      have i0 : (0 : Int) ≤ (j : Int) := by omega
      have i1 : (j : Int) < (xs.length : Int) := by omega
      generalize markTo markLit xs k j = ys at hS hat HS hl
      generalize markK markLit xs k j = q at q0 q1 HS HK
      generalize xs[j] = x at hat HS HK q1
      rw [← set_same hat] at hS
      have hjy : j < ys.length := by omega
      clear hat
      have Q1 := Lib.hid q1
      simp only [cntLit] at q1
      obtain ⟨c0, d0⟩ := hS.cellAt2 HF hjy (c := 0) rfl
      obtain ⟨hS0, o0⟩ := hS.put2 HF hjy 0 (.int .i64 (q)) (⟨q, ⟨x.atom.name, x.atom.args⟩, x.op, ⟨x.a.var, ⟨x.a.val.n, x.a.val.s⟩⟩, ⟨x.b.var, ⟨x.b.val.n, x.b.val.s⟩⟩⟩ : Litt) rfl (wf64 (by omega) (by omega)) rfl
      simp only [show Enc.size litE = 10 from rfl, Nat.add_zero] at c0 d0 hS0 o0
      clear hS
      have hS := hS0
      clear hS0
      replace hO := hO.trans o0
      replace HF := HF.only o0
      clear o0
      go_wp2_with fail
      refine (markText_any _ _ (by omega)).mono ?_
      rintro e w1 ⟨rfl, hb⟩
      replace hS := hS.up hb
      replace hO := hO.trans (Only.below hb)
      replace HF := HF.up hb
      clear hb c0 d0
      obtain ⟨c1, d1⟩ := hS.cellAt2 HF hjy (c := 1) rfl
      obtain ⟨hS1, o1⟩ := hS.put2 HF hjy 1 (.string (markText (q + 1))) (⟨q, ⟨markText (q + 1), x.atom.args⟩, x.op, ⟨x.a.var, ⟨x.a.val.n, x.a.val.s⟩⟩, ⟨x.b.var, ⟨x.b.val.n, x.b.val.s⟩⟩⟩ : Litt) rfl (wfText (by omega)) rfl
      simp only [show Enc.size litE = 10 from rfl, Nat.add_zero] at c1 d1 hS1 o1
      clear hS
      have hS := hS1
      clear hS1
      replace hO := hO.trans o1
      replace HF := HF.only o1
      clear o1
      obtain ⟨a2, n2, p2, b2, c2, r2, F2, next2⟩ := hS.nest2 HF hjy (c := 2) rfl
      simp only [show Enc.size litE = 10 from rfl, Nat.add_zero] at c2
      go_wp2_with fail
      refine (markTermS_any _ _ _ _ _ _ lo _ r2 F2 (by omega) (by omega)).mono ?_
      rintro e w2 ⟨rfl, rr, oo⟩
      obtain ⟨hS2, o2⟩ := next2 w2 _ (⟨q, ⟨markText (q + 1), (markL markTerm x.atom.args (q + 1 + 1)).1⟩, x.op, ⟨x.a.var, ⟨x.a.val.n, x.a.val.s⟩⟩, ⟨x.b.var, ⟨x.b.val.n, x.b.val.s⟩⟩⟩ : Litt) rr oo rfl
      have v2 := markL_cnt markTerm markTerm_cnt x.atom.args (q + 1 + 1)
      have y2 : 0 ≤ (markL markTerm x.atom.args (q + 1 + 1)).2 := by omega
      have z2 : (markL markTerm x.atom.args (q + 1 + 1)).2 + ((1 + 1 + 1 + 1 + 1 + 1 + 1 : Nat) : Int) ≤ 4611686018427387904 := by omega
      clear hS
      have hS := hS2
      replace hO := hO.trans o2
      replace HF := HF.only o2
      clear hS2 o2 rr oo r2 F2 next2 v2 c1 d1 c2
      obtain ⟨c3, d3⟩ := hS.cellAt2 HF hjy (c := 3) rfl
      obtain ⟨hS3, o3⟩ := hS.put2 HF hjy 3 (.int .i64 ((markL markTerm x.atom.args (q + 1 + 1)).2)) (⟨q, ⟨markText (q + 1), (markL markTerm x.atom.args (q + 1 + 1)).1⟩, (markL markTerm x.atom.args (q + 1 + 1)).2, ⟨x.a.var, ⟨x.a.val.n, x.a.val.s⟩⟩, ⟨x.b.var, ⟨x.b.val.n, x.b.val.s⟩⟩⟩ : Litt) rfl (wf64 (by omega) (by omega)) rfl
      simp only [show Enc.size litE = 10 from rfl, Nat.add_zero] at c3 d3 hS3 o3
      clear hS
      have hS := hS3
      clear hS3
      replace hO := hO.trans o3
      replace HF := HF.only o3
      clear o3
      go_wp2_with fail
      refine (markText_any _ _ (by omega)).mono ?_
      rintro e w4 ⟨rfl, hb⟩
      replace hS := hS.up hb
      replace hO := hO.trans (Only.below hb)
      replace HF := HF.up hb
      clear hb c3 d3
      obtain ⟨c4, d4⟩ := hS.cellAt2 HF hjy (c := 4) rfl
      obtain ⟨hS4, o4⟩ := hS.put2 HF hjy 4 (.string (markText ((markL markTerm x.atom.args (q + 1 + 1)).2 + 1))) (⟨q, ⟨markText (q + 1), (markL markTerm x.atom.args (q + 1 + 1)).1⟩, (markL markTerm x.atom.args (q + 1 + 1)).2, ⟨markText ((markL markTerm x.atom.args (q + 1 + 1)).2 + 1), ⟨x.a.val.n, x.a.val.s⟩⟩, ⟨x.b.var, ⟨x.b.val.n, x.b.val.s⟩⟩⟩ : Litt) rfl (wfText (by omega)) rfl
      simp only [show Enc.size litE = 10 from rfl, Nat.add_zero] at c4 d4 hS4 o4
      clear hS
      have hS := hS4
      clear hS4
      replace hO := hO.trans o4
      replace HF := HF.only o4
      clear o4
      obtain ⟨c5, d5⟩ := hS.cellAt2 HF hjy (c := 5) rfl
      obtain ⟨hS5, o5⟩ := hS.put2 HF hjy 5 (.int .i64 ((markL markTerm x.atom.args (q + 1 + 1)).2 + 1 + 1)) (⟨q, ⟨markText (q + 1), (markL markTerm x.atom.args (q + 1 + 1)).1⟩, (markL markTerm x.atom.args (q + 1 + 1)).2, ⟨markText ((markL markTerm x.atom.args (q + 1 + 1)).2 + 1), ⟨(markL markTerm x.atom.args (q + 1 + 1)).2 + 1 + 1, x.a.val.s⟩⟩, ⟨x.b.var, ⟨x.b.val.n, x.b.val.s⟩⟩⟩ : Litt) rfl (wf64 (by omega) (by omega)) rfl
      simp only [show Enc.size litE = 10 from rfl, Nat.add_zero] at c5 d5 hS5 o5
      clear hS
      have hS := hS5
      clear hS5
      replace hO := hO.trans o5
      replace HF := HF.only o5
      clear o5
      go_wp2_with fail
      refine (markText_any _ _ (by omega)).mono ?_
      rintro e w6 ⟨rfl, hb⟩
      replace hS := hS.up hb
      replace hO := hO.trans (Only.below hb)
      replace HF := HF.up hb
      clear hb c4 d4 c5 d5
      obtain ⟨c6, d6⟩ := hS.cellAt2 HF hjy (c := 6) rfl
      obtain ⟨hS6, o6⟩ := hS.put2 HF hjy 6 (.string (markText ((markL markTerm x.atom.args (q + 1 + 1)).2 + 1 + 1 + 1))) (⟨q, ⟨markText (q + 1), (markL markTerm x.atom.args (q + 1 + 1)).1⟩, (markL markTerm x.atom.args (q + 1 + 1)).2, ⟨markText ((markL markTerm x.atom.args (q + 1 + 1)).2 + 1), ⟨(markL markTerm x.atom.args (q + 1 + 1)).2 + 1 + 1, markText ((markL markTerm x.atom.args (q + 1 + 1)).2 + 1 + 1 + 1)⟩⟩, ⟨x.b.var, ⟨x.b.val.n, x.b.val.s⟩⟩⟩ : Litt) rfl (wfText (by omega)) rfl
      simp only [show Enc.size litE = 10 from rfl, Nat.add_zero] at c6 d6 hS6 o6
      clear hS
      have hS := hS6
      clear hS6
      replace hO := hO.trans o6
      replace HF := HF.only o6
      clear o6
      go_wp2_with fail
      refine (markText_any _ _ (by omega)).mono ?_
      rintro e w7 ⟨rfl, hb⟩
      replace hS := hS.up hb
      replace hO := hO.trans (Only.below hb)
      replace HF := HF.up hb
      clear hb c6 d6
      obtain ⟨c7, d7⟩ := hS.cellAt2 HF hjy (c := 7) rfl
      obtain ⟨hS7, o7⟩ := hS.put2 HF hjy 7 (.string (markText ((markL markTerm x.atom.args (q + 1 + 1)).2 + 1 + 1 + 1 + 1))) (⟨q, ⟨markText (q + 1), (markL markTerm x.atom.args (q + 1 + 1)).1⟩, (markL markTerm x.atom.args (q + 1 + 1)).2, ⟨markText ((markL markTerm x.atom.args (q + 1 + 1)).2 + 1), ⟨(markL markTerm x.atom.args (q + 1 + 1)).2 + 1 + 1, markText ((markL markTerm x.atom.args (q + 1 + 1)).2 + 1 + 1 + 1)⟩⟩, ⟨markText ((markL markTerm x.atom.args (q + 1 + 1)).2 + 1 + 1 + 1 + 1), ⟨x.b.val.n, x.b.val.s⟩⟩⟩ : Litt) rfl (wfText (by omega)) rfl
      simp only [show Enc.size litE = 10 from rfl, Nat.add_zero] at c7 d7 hS7 o7
      clear hS
      have hS := hS7
      clear hS7
      replace hO := hO.trans o7
      replace HF := HF.only o7
      clear o7
      obtain ⟨c8, d8⟩ := hS.cellAt2 HF hjy (c := 8) rfl
      obtain ⟨hS8, o8⟩ := hS.put2 HF hjy 8 (.int .i64 ((markL markTerm x.atom.args (q + 1 + 1)).2 + 1 + 1 + 1 + 1 + 1)) (⟨q, ⟨markText (q + 1), (markL markTerm x.atom.args (q + 1 + 1)).1⟩, (markL markTerm x.atom.args (q + 1 + 1)).2, ⟨markText ((markL markTerm x.atom.args (q + 1 + 1)).2 + 1), ⟨(markL markTerm x.atom.args (q + 1 + 1)).2 + 1 + 1, markText ((markL markTerm x.atom.args (q + 1 + 1)).2 + 1 + 1 + 1)⟩⟩, ⟨markText ((markL markTerm x.atom.args (q + 1 + 1)).2 + 1 + 1 + 1 + 1), ⟨(markL markTerm x.atom.args (q + 1 + 1)).2 + 1 + 1 + 1 + 1 + 1, x.b.val.s⟩⟩⟩ : Litt) rfl (wf64 (by omega) (by omega)) rfl
      simp only [show Enc.size litE = 10 from rfl, Nat.add_zero] at c8 d8 hS8 o8
      clear hS
      have hS := hS8
      clear hS8
      replace hO := hO.trans o8
      replace HF := HF.only o8
      clear o8
      go_wp2_with fail
      refine (markText_any _ _ (by omega)).mono ?_
      rintro e w9 ⟨rfl, hb⟩
      replace hS := hS.up hb
      replace hO := hO.trans (Only.below hb)
      replace HF := HF.up hb
      clear hb c7 d7 c8 d8
      obtain ⟨c9, d9⟩ := hS.cellAt2 HF hjy (c := 9) rfl
      obtain ⟨hS9, o9⟩ := hS.put2 HF hjy 9 (.string (markText ((markL markTerm x.atom.args (q + 1 + 1)).2 + 1 + 1 + 1 + 1 + 1 + 1))) (⟨q, ⟨markText (q + 1), (markL markTerm x.atom.args (q + 1 + 1)).1⟩, (markL markTerm x.atom.args (q + 1 + 1)).2, ⟨markText ((markL markTerm x.atom.args (q + 1 + 1)).2 + 1), ⟨(markL markTerm x.atom.args (q + 1 + 1)).2 + 1 + 1, markText ((markL markTerm x.atom.args (q + 1 + 1)).2 + 1 + 1 + 1)⟩⟩, ⟨markText ((markL markTerm x.atom.args (q + 1 + 1)).2 + 1 + 1 + 1 + 1), ⟨(markL markTerm x.atom.args (q + 1 + 1)).2 + 1 + 1 + 1 + 1 + 1, markText ((markL markTerm x.atom.args (q + 1 + 1)).2 + 1 + 1 + 1 + 1 + 1 + 1)⟩⟩⟩ : Litt) rfl (wfText (by omega)) rfl
      simp only [show Enc.size litE = 10 from rfl, Nat.add_zero] at c9 d9 hS9 o9
      clear hS
      have hS := hS9
      clear hS9
      replace hO := hO.trans o9
      replace HF := HF.only o9
      clear o9
      go_wp2_with fail
      go_roundw
      case rel => exact ⟨j + 1, NJ.out, by go_num, by rw [HK.out]; rfl, by rw [← HS.out]; exact hS, hO⟩
      case measure => simp [intOf]; omega
    · obtain rfl : j = xs.length := by omega
      rw [markTo_done] at hS
      go_wp2_with fail
      go_ret
      exact ⟨ret_int (markK_done _ _ _), hS, hO⟩

def markDRule (x : Rulet) (k : Int) : Rulet × Int := (⟨x.kind, ⟨x.head.name, (markL markTerm x.head.args (k)).1⟩, (markL markLit x.body ((markL markTerm x.head.args (k)).2)).1⟩, (markL markLit x.body ((markL markTerm x.head.args (k)).2)).2)
def cntDRule (x : Rulet) : Nat := cntL cntTerm x.head.args + cntL cntLit x.body
theorem markDRule_cnt (x : Rulet) (k : Int) : (markDRule x k).2 = k + cntDRule x := by
  simp only [markDRule, cntDRule, markL_cnt markTerm markTerm_cnt, markL_cnt markLit markLit_cnt]
  try omega
set_option maxHeartbeats 4000000 in
theorem markDRule_any (cs : List Value) (x : Rulet) (bs : List Nat) (k : Int) (lo : Nat) (w : World) (h : ruleE.rep w cs x bs) (hF : Fresh lo w bs) (k0 : 0 ≤ k) (k1 : k + cntDRule x ≤ 4611686018427387904) :
    Calls Try.prog 13 #[.agg cs.toArray, .int .i64 k] w fun e w' => e = .returned (.int .i64 (markDRule x k).2) ∧ ruleE.rep w' cs (markDRule x k).1 bs ∧ Only bs w w' := by
  have hr := h
  have hlt := ruleE.lt h
  obtain ⟨sa0, sn0, sc0, sb0, sa1, sn1, sc1, sb1, hcs, _, _, _, _, _⟩ := Rule_rep.1 h
  subst hcs
  clear h
  simp only [cntDRule] at k1
  have H := ((Held.start w).box_ #[.int .i64 x.kind, .string x.head.name, .slice sa0 sn0 sc0, .slice sa1 sn1 sc1] 36)
  have hal := (Below.refl w.heap.size w).alloc (Nat.le_refl _) (.cells #[.int .i64 x.kind, .string x.head.name, .slice sa0 sn0 sc0, .slice sa1 sn1 sc1] 36)
  have H2 := H.s1
  have bx0 := H2.2 0
  have bx1 := H2.2 1
  have bx2 := H2.2 2
  have bx3 := H2.2 3
  replace hr := ruleE.up hr hal
  replace hF := hF.up hal
  have hO : Only bs w _ := Only.below hal
  clear hal H H2
  go_enter Try.func13, Try.ntmps13
  have hcnt : True ∧ cntDAtom (x.head) = cntL cntTerm x.head.args := by simp only [and_self, cntDAtom]; repeat (first | exact trivial | refine ⟨trivial, ?_⟩ | refine ⟨rfl, ?_⟩ | rfl)
  obtain ⟨b0, r0, F0, next0⟩ := Enc.nestR (e' := atomE) (g := atomC) (y := x.head) hr hF 1 2 rfl rfl rfl
  replace r0 : atomE.rep _ [.string x.head.name, .slice sa0 sn0 sc0] (x.head) b0 := r0
  go_wp2_with fail
  refine (markDAtom_any [.string x.head.name, .slice sa0 sn0 sc0] (x.head) b0 _ lo _ r0 F0 (by omega) (by omega)).mono ?_
  rintro e w1 ⟨rfl, rr, oo⟩
  obtain ⟨hr0, o0⟩ := next0 w1 _ (⟨x.kind, ⟨x.head.name, (markL markTerm x.head.args (k)).1⟩, x.body⟩ : Rulet) rr oo rfl
  have v0 := markDAtom_cnt (x.head) (k)
  have y0 : 0 ≤ (markDAtom (x.head) (k)).2 := by omega
  have z0 : (markDAtom (x.head) (k)).2 + ((cntL cntLit x.body : Nat) : Int) ≤ 4611686018427387904 := by omega
  replace bx0 := cell_only bx0 o0 (fun hm => Nat.lt_irrefl _ (hlt _ hm))
  replace bx1 := cell_only bx1 o0 (fun hm => Nat.lt_irrefl _ (hlt _ hm))
  replace bx2 := cell_only bx2 o0 (fun hm => Nat.lt_irrefl _ (hlt _ hm))
  replace bx3 := cell_only bx3 o0 (fun hm => Nat.lt_irrefl _ (hlt _ hm))
  clear hr
  have hr := hr0
  replace hO := hO.trans o0
  replace hF := hF.only o0
  clear hr0 o0 rr oo r0 F0 next0 v0
  obtain ⟨a1, n1, p1, b1, e1, r1, F1, next1⟩ := Enc.nest hr hF (c := 3) rfl
  simp only [List.getElem?_cons_zero, List.getElem?_cons_succ, Option.some.injEq, Value.slice.injEq] at e1
  obtain ⟨rfl, rfl, rfl⟩ := e1
  go_wp2_with fail
  refine (markLitS_any _ _ _ _ _ _ lo _ r1 F1 (by omega) (by omega)).mono ?_
  rintro e w2 ⟨rfl, rr, oo⟩
  obtain ⟨hr1, o1⟩ := next1 w2 _ (⟨x.kind, ⟨x.head.name, (markL markTerm x.head.args (k)).1⟩, (markL markLit x.body ((markL markTerm x.head.args (k)).2)).1⟩ : Rulet) rr oo rfl
  clear hr
  have hr := hr1
  replace hO := hO.trans o1
  replace hF := hF.only o1
  clear hr1 o1 rr oo r1 F1 next1
  go_wp2_with fail
  go_ret
  exact ⟨rfl, hr, hO⟩

end Go.Proofs.Ytkemjhlbokldhaa

/- The laws' held functions (printed by walk.py) -/
namespace Go.Proofs.Ytkemjhlbokldhaa
open Go.RowKit
set_option linter.unusedVariables false
set_option linter.unusedSimpArgs false
set_option maxRecDepth 100000

theorem mtext_c (q : Int) (h1 : q ≤ 9223372036854775807) : AC Try.prog 41 [.one (.c (.int .i64 q))] [] (.one (.c (.string (markText q)))) [] :=
  AC.pure ⟨_, _, Try.func41, rfl, rfl⟩ (wfText h1) fun w g cargs h => by
    obtain ⟨v, rfl, h0⟩ := inv1 h
    rw [(inv_c h0).1]
    exact markText_any q w h1

set_option maxHeartbeats 4000000 in
theorem heldStringS_c (xs ys : List (ByteArray)) (q : Int) (hy : (markL markString xs q).1 = ys) (k0 : 0 ≤ q) (k1 : q + cntL cntString xs ≤ 4611686018427387904) : AC Try.prog 15 [.one (.sl strE ys), .one (.c (.int .i64 q))] [] (.one (.c (.int .i64 (markL markString xs q).2))) [] := by
  refine AC_body1 Try.func15 rfl rfl Try.ntmps15 rfl Try.results15 ?_
  refine AW_slmax 0 rfl (fun hm0 => ?_)
  refine AW_seq ?_
  refine AW_region ?_
  refine AL_p (x_assign rfl rfl) ?_
  refine AL_nil ?_
  refine AW_seq ?_
  refine AW_seq ?_
  refine AW_region ?_
  refine AL_p (x_assign rfl rfl) ?_
  refine AL_nil ?_
  refine AW_block ?_
  refine AW_loop2 (ι := {q : Nat // q ≤ xs.length}) (fun p => [(1, .one (.c (.int .i64 (markK markString xs q (p.1))))), (5, .one (.c (.int .i64 ((p.1) : Int))))]) (fun p => []) [0] [] (fun p => xs.length - (p.1)) ⟨0, by omega⟩ (rn []) ?_ ?_
  exact ⟨by (repeat refine ⟨⟨_, rfl, by first | exact VLe.rf | exact vle_int (by dsimp only; omega) | exact vle_int (markK_zero _ _ _).symm | exact vle_int (by rw [hks]; rfl)⟩, ?_⟩); exact trivial, by (repeat refine ⟨⟨_, rfl, by first | exact BLe.rf | exact BLe.box AllC.rf | exact BLe.arr (by exact rfl)⟩, ?_⟩); exact trivial, by repeat (first | exact trivial | refine ⟨⟨rfl, by first | (left; intro h; cases h) | (right; rfl), by first | exact (fun _ h => ⟨_, h⟩) | exact (fun _ _ => ⟨_, rfl⟩) | (intro _ h; cases h)⟩, ?_⟩), rfl⟩
  rintro ⟨k, hinv⟩
  dsimp only
  have hl : ys.length = xs.length := by rw [← hy, markL_len]
  refine AW_seq ?_
  refine AW_seq ?_
  refine AW_region ?_
  refine AL_p (x_move rfl rfl) ?_
  refine AL_p (x_move rfl rfl) ?_
  refine AL_p (x_len (E := 9) (n := 1) rfl rfl (by kernel_rfl)) ?_
  refine AL_b (x_lss rfl rfl rfl) (fun b9 h9 => ?_)
  refine AL_nil ?_
  cases b9
  · try simp only [tdy] at h9
    refine AW_condF rfl ?_
    refine AW_exit (BQ_hit ?_)
    refine AW_seq ?_
    refine AW_region ?_
    refine AL_p (x_move rfl rfl) ?_
    refine AL_p (x_assign rfl rfl) ?_
    refine AL_nil ?_
    refine AW_ret ?_
    obtain rfl : k = xs.length := by omega
    exact ⟨rn [], ⟨⟨⟨_, rfl, vle_int (markK_done _ _ _)⟩, trivial⟩, trivial, trivial, rfl⟩⟩
  try simp only [tdy] at h9
  have hlt : k < xs.length := by omega
  have hat := markL_at' markString hy hlt
  obtain ⟨q0, q1⟩ := markK_bound markString markString_cnt k0 k1 hlt
  have hks := markK_succ markString (k := q) hlt
  generalize markK markString xs q k = r at *
  simp only [cntString] at q1
  refine AW_condT rfl ?_
  refine AW_skip ?_
  refine AW_seq ?_
  refine AW_block ?_
  refine AW_seq ?_
  refine AW_seq ?_
  refine AW_draw rfl ?_
  refine AL_p (x_move rfl rfl) ?_
  refine AL_p (x_move rfl rfl) ?_
  refine AL_p (x_index (E := 9) (n := 1) rfl rfl rfl (by kernel_rfl) rfl (k := k) (by omega) (by omega)) ?_
  refine AL_p (x_eload1 rfl rfl (by kernel_rfl) rfl) ?_
  refine AL_p (x_move rfl rfl) ?_
  refine AL_p (x_call0 rfl rfl rfl (mtext_c _ (by omega)) rfl rfl) ?_
  refine AL_b (x_sneq rfl rfl rfl) (fun b18 h18 => ?_)
  refine AL_nild (by kernel_rfl) ?_
  cases b18
  rotate_left
  · exfalso; rw [hat] at h18; simp [markString, ba_beq_self] at h18
  try simp only [tdy] at h18
  refine AW_condF rfl ?_
  refine AW_skip ?_
  refine AW_region ?_
  refine AL_p (x_move rfl rfl) ?_
  refine AL_p (x_add rfl rfl rfl (IntWalk.i64_in _ (by omega))) ?_
  refine AL_p (x_assign rfl rfl) ?_
  refine AL_nil ?_
  refine AW_region ?_
  refine AL_p (x_move rfl rfl) ?_
  refine AL_p (x_add rfl rfl rfl (IntWalk.i64_in _ (by omega))) ?_
  refine AL_p (x_assign rfl rfl) ?_
  refine AL_nil ?_
  refine ⟨⟨k + 1, by omega⟩, rn [], ?_, by dsimp only; omega⟩
  exact ⟨by (repeat refine ⟨⟨_, rfl, by first | exact VLe.rf | exact vle_int (by dsimp only; omega) | exact vle_int (markK_zero _ _ _).symm | exact vle_int (by rw [hks]; rfl)⟩, ?_⟩); exact trivial, by (repeat refine ⟨⟨_, rfl, by first | exact BLe.rf | exact BLe.box AllC.rf | exact BLe.arr (by exact rfl)⟩, ?_⟩); exact trivial, by repeat (first | exact trivial | refine ⟨⟨rfl, by first | (left; intro h; cases h) | (right; rfl), by first | exact (fun _ h => ⟨_, h⟩) | exact (fun _ _ => ⟨_, rfl⟩) | (intro _ h; cases h)⟩, ?_⟩), rfl⟩
end Go.Proofs.Ytkemjhlbokldhaa

/- The abstract walk of a law: phases, between which own data is written anew (marks). -/
namespace Go.Proofs.Ytkemjhlbokldhaa
open Go.RowKit
set_option linter.unusedVariables false

/-- A phase: what stood at its start (blocks below B) is read alone; what is one's own was made since. -/
structure Ph (B : Nat) (g : Gh) (s : St) (w : World) : Prop where
  le : B ≤ w.heap.size
  old : ∀ b, b < B → g.I b
  own : ∀ b, OwnB g s.l b → B ≤ b
theorem Ph.step {B : Nat} {g g' : Gh} {s s' : St} {w w' : World} (p : Ph B g s w) (hs : Step [] g s.l w g' s'.l w') : Ph B g' s' w' ∧ Below B w w' :=
  ⟨⟨Nat.le_trans p.le hs.size, fun b hb => hs.imm b (p.old b hb), fun b hb => (hs.own b hb).elim (p.own b) fun h => Nat.le_trans p.le h⟩,
   hs.os, hs.tape, hs.output, hs.size, fun b hb => hs.keep b (Nat.lt_of_lt_of_le hb p.le) fun k blk hk hl e => by
    have := p.own b (e ▸ OwnB.of_live hk hl)
    omega⟩
def EndsM (N B : Nat) (w : World) (R : Exit → St → Prop) : Exit → Act → World → Prop := fun e a' w' => ∃ g' s', Rep N g' s' a' w' ∧ Ph B g' s' w' ∧ Below B w w' ∧ R e s'
theorem EndsM.back {N B : Nat} {w w1 : World} {R : Exit → St → Prop} {e : Exit} {a : Act} {w2 : World} (hb : Below B w w1) (h : EndsM N B w1 R e a w2) : EndsM N B w R e a w2 := by
  obtain ⟨g', s', r, p, b, hR⟩ := h
  exact ⟨g', s', r, p, hb.trans b, hR⟩
theorem EndsM.down {N B B' : Nat} {w : World} {R : Exit → St → Prop} {e : Exit} {a : Act} {w2 : World} (hB : B ≤ B') (h : EndsM N B' w R e a w2) : EndsM N B w R e a w2 := by
  obtain ⟨g', s', r, p, b, hR⟩ := h
  exact ⟨g', s', r, ⟨Nat.le_trans hB p.le, fun b hb => p.old b (Nat.lt_of_lt_of_le hb hB), fun b hb => Nat.le_trans hB (p.own b hb)⟩, b.mono hB, hR⟩
def AM (P : Program) (N B : Nat) (c : Code) (Kn : St → Prop) (Q : Exit → St → Prop) (s : St) : Prop :=
  ∀ (g : Gh) (a : Act) (w : World), Rep N g s a w → Ph B g s w → c.wp P (EndsM N B w (NormR Kn Q)) a w
section rules
variable {P : Program} {N B : Nat} {Kn : St → Prop} {Q : Exit → St → Prop} {s : St}
theorem AM_of {c : Code} (h : AW P N [] c Kn Q s) : AM P N B c Kn Q s := fun g a w r p =>
  Go.wp_mono (h g a w r) fun e a1 w1 ⟨g1, s1, r1, hs, hR⟩ => ⟨g1, s1, r1, (p.step hs).1, (p.step hs).2, hR⟩
theorem AM_region {id : Nat} {l : List Oper} (h : AL P N false l.toArray Kn l s []) : AM P N B (.region id l.toArray false) Kn Q s := AM_of (AW_region h)
theorem AM_draw {id : Nat} {l : List Oper} (hm : P.follows .mixedOrders = true) (h : AL P N true l.toArray Kn l s []) : AM P N B (.region id l.toArray true) Kn Q s := AM_of (AW_draw hm h)
theorem AM_skip (h : Kn s) : AM P N B .skip Kn Q s := AM_of (AW_skip h)
theorem AM_ret (h : Q .ret s) : AM P N B .ret Kn Q s := AM_of (AW_ret h)
theorem AM_seq {x y : Code} (h : AM P N B x (AM P N B y Kn Q) Q s) : AM P N B (.seq x y) Kn Q s := fun g a w r p =>
  wp_seq (Go.wp_mono (h g a w r p) fun e a1 w1 h1 => by
    obtain ⟨g1, s1, r1, p1, b1, hR⟩ := h1
    cases e with
    | normal => exact Go.wp_mono (hR g1 a1 w1 r1 p1) fun e a2 w2 h2 => h2.back b1
    | exit id => exact ⟨g1, s1, r1, p1, b1, hR⟩
    | goto l => exact ⟨g1, s1, r1, p1, b1, hR⟩
    | ret => exact ⟨g1, s1, r1, p1, b1, hR⟩
    | panic ch => exact ⟨g1, s1, r1, p1, b1, hR⟩
    | outgrown => exact ⟨g1, s1, r1, p1, b1, hR⟩)
theorem AM_condT {c : Operand} {x y : Code} (hc : evo s.t c = some (.one (.c (.bool true)))) (h : AM P N B x Kn Q s) : AM P N B (.cond c x y) Kn Q s := fun g a w r p => by
  obtain ⟨hv, _⟩ : a.eval c = .bool true ∧ wfV (.bool true) := eval_ok r (evs_of hc) (rdo_of hc)
  exact wp_cond_split hv (fun _ => h g a w r p) (fun h => by cases h)
theorem AM_condF {c : Operand} {x y : Code} (hc : evo s.t c = some (.one (.c (.bool false)))) (h : AM P N B y Kn Q s) : AM P N B (.cond c x y) Kn Q s := fun g a w r p => by
  obtain ⟨hv, _⟩ : a.eval c = .bool false ∧ wfV (.bool false) := eval_ok r (evs_of hc) (rdo_of hc)
  exact wp_cond_split hv (fun h => by cases h) (fun _ => h g a w r p)
end rules

/-! ### A new phase -/
/-- What a slot holds, where all that stands is read alone from now on. -/
inductive Rise (l : Locs) (B B' : Nat) : AVal → AVal → Prop
  | c {v : Value} : Rise l B B' (.one (.c v)) (.one (.c v))
  | box {k : Nat} {cs ds : List Cell} {js : List Nat} {d : Bool} {α : Type} {e : Enc α} {f : α → List Cell} [hc : CellsOf e f] {x : α} (hb : lkl l k = some (.box cs)) (hm : mvC l cs = some (ds, js, d)) (hj : noDup js = true) (hf : FitL ds (f x)) : Rise l B B' (.one (.ptr k 0)) (.one (.epo B' e x 0))
  | own {k : Nat} {α : Type} {T : TypeId} {e : Enc α} {xs : List α} {d : Bool} (hb : lkl l k = some (.arr T e xs d)) : Rise l B B' (.one (.own k)) (.one (.slo B' e xs))
  | epo {α : Type} {e : Enc α} {x : α} {o : Nat} : Rise l B B' (.one (.epo B e x o)) (.one (.epo B' e x o))
  | slo {α : Type} {e : Enc α} {xs : List α} : Rise l B B' (.one (.slo B e xs)) (.one (.slo B' e xs))
  | sl {α : Type} {e : Enc α} {xs : List α} : Rise l B B' (.one (.sl e xs)) (.one (.slo B' e xs))
  | agg {cs ds : List Cell} {js : List Nat} {d : Bool} {α : Type} {e : Enc α} {f : α → List Cell} [hc : CellsOf e f] {x : α} (hm : mvC l cs = some (ds, js, d)) (hj : noDup js = true) (hf : FitL ds (f x)) (hs : (f x).all Cell.dat = true) : Rise l B B' (.agg cs) (.agg (f x))
def RiseT (l : Locs) (B B' : Nat) (t : Tmps) : Tmps → Prop
  | [] => True
  | (k, x) :: r => (∃ y, lk t k = some y ∧ Rise l B B' y x) ∧ RiseT l B B' t r
theorem RiseT.get {l : Locs} {B B' : Nat} {t : Tmps} : ∀ {T : Tmps} {k : Nat} {x : AVal}, RiseT l B B' t T → lk T k = some x → ∃ y, lk t k = some y ∧ Rise l B B' y x
  | [], k, x, _, h => by simp [lk] at h
  | (j, z) :: r, k, x, hT, h => by
    by_cases e : j = k
    · subst e; rw [lk_cons_self] at h; cases h; exact hT.1
    · rw [lk_cons_ne e] at h; exact RiseT.get hT.2 h
theorem Rise.ok {g : Gh} {l : Locs} {w : World} {B : Nat} (m : MemR g l w) {v : Value} {x y : AVal} (h : Rise l B w.heap.size x y) (hv : VR g l w v x) : VR (allI w) [] w v y := by
  cases h with
  | c => exact hv
  | @box k cs ds js d α e f hc x hb hm hj hf =>
    have he : v = .pointer (some ⟨g.ρ k, 0, none⟩) := hv cs hb
    obtain ⟨vs, t, h1, h2, h3⟩ := m.box k cs hb
    obtain ⟨bs, f1, f2, _⟩ := mvC_ok m h2 hm (noDup_of hj)
    have hr : e.rep w vs.toList x bs := hc.iff.2 (f1.fit hf)
    exact ⟨g.ρ k, 0, vs.toList, bs, he, ⟨(Array.getElem?_eq_some_iff.1 h1).1, (Array.getElem?_eq_some_iff.1 h1).1⟩, hr, fun c hcb => ⟨e.lt hr c hcb, e.lt hr c hcb⟩, fun j u hu => by rw [cell_of_heap h1, Nat.zero_add]; simpa using hu⟩
  | @own k α T e xs d hb =>
    obtain ⟨a, n, cap, bs, h1, h2, h3, _⟩ := (m.arr k α T e xs d hb).slice
    have he : v = g.hd k := hv α T e xs d hb
    exact ⟨a, n, cap, bs, he.trans h1, h2, fun b hbb => ⟨h2.lt b hbb, h2.lt b hbb⟩⟩
  | epo =>
    obtain ⟨gb, o, cs, b, h1, h2, h3, h4, h5⟩ := hv
    have hg := m.ilt gb h2.1
    exact ⟨gb, o, cs, b, h1, ⟨hg, hg⟩, h3, fun c hc => ⟨m.ilt c (h4 c hc).1, m.ilt c (h4 c hc).1⟩, h5⟩
  | slo =>
    obtain ⟨a, n, cap, bs, h1, h2, h3⟩ := hv
    exact ⟨a, n, cap, bs, h1, h2, fun b hb => ⟨h2.lt b hb, h2.lt b hb⟩⟩
  | sl =>
    obtain ⟨a, n, cap, bs, h1, h2, h3⟩ := hv
    exact ⟨a, n, cap, bs, h1, h2, fun b hb => ⟨h2.lt b hb, h2.lt b hb⟩⟩
  | @agg cs ds js d α e f hc x hm hj hf hs =>
    obtain ⟨vs, h1, h2⟩ := hv
    obtain ⟨bs, f1, f2, _⟩ := mvC_ok m h2 hm (noDup_of hj)
    have hr : e.rep w vs x bs := hc.iff.2 (f1.fit hf)
    exact ⟨vs, h1, (f1.fit hf).all2 fun i hi => e.lt hr i hi⟩
/-- From here on all that stands is read alone. -/
theorem AM_raise {P : Program} {N B : Nat} {c : Code} {Kn : St → Prop} {Q : Exit → St → Prop} {s : St} (T : Nat → Tmps) (hT : ∀ B', RiseT s.l B B' s.t (T B')) (h : ∀ B', AM P N B' c Kn Q ⟨T B', []⟩) : AM P N B c Kn Q s := fun g a w r p => by
  have r2 : Rep N (allI w) ⟨T w.heap.size, []⟩ a w := ⟨r.size, r.defers, fun k x hk => by
    obtain ⟨y, h1, h2⟩ := (hT w.heap.size).get hk
    exact h2.ok r.mem (r.tmp k y h1), allI_mem w⟩
  exact Go.wp_mono (h w.heap.size (allI w) a w r2 ⟨Nat.le_refl _, fun b hb => hb, fun b ⟨k, blk, hk, _⟩ => by simp [lkl, lk] at hk⟩) fun e a1 w1 h1 => h1.down p.le

/-! ### What a mark leaves standing -/
def HardC (B : Nat) (js : List Nat) : Cell → Prop
  | .c _ => True
  | .any => True
  | .ptr _ _ => True
  | .own j => noId j js = true
  | .slo B' _ _ => B' = B
  | .epo B' _ _ _ => B' = B
  | _ => False
def hardAll (B : Nat) (js : List Nat) : List Cell → Prop
  | [] => True
  | c :: cs => HardC B js c ∧ hardAll B js cs
theorem hardAll.get {B : Nat} {js : List Nat} : ∀ {cs : List Cell}, hardAll B js cs → ∀ x ∈ cs, HardC B js x
  | [], _, x, h => by cases h
  | c :: cs, h, x, hx => by
    rcases List.mem_cons.1 hx with rfl | hx
    · exact h.1
    · exact hardAll.get h.2 x hx
def HardV (B : Nat) (js : List Nat) : AVal → Prop
  | .one x => HardC B js x
  | .agg xs => hardAll B js xs
  | .tup _ => False
def HardB (B : Nat) (js : List Nat) (k : Nat) : Blk → Prop
  | .box cs => hardAll B js cs
  | .arr _ _ _ d => d = true ∧ noId k js = true
def SubT (B : Nat) (js : List Nat) (t : Tmps) : Tmps → Prop
  | [] => True
  | (k, x) :: r => (lk t k = some x ∧ HardV B js x) ∧ SubT B js t r
def SubL (B : Nat) (js : List Nat) (l : Locs) : Locs → Prop
  | [] => True
  | (k, some b) :: r => (lkl l k = some b ∧ HardB B js k b) ∧ SubL B js l r
  | (_, none) :: r => SubL B js l r
theorem SubT.get {B : Nat} {js : List Nat} {t : Tmps} : ∀ {T : Tmps} {k : Nat} {x : AVal}, SubT B js t T → lk T k = some x → lk t k = some x ∧ HardV B js x
  | [], k, x, _, h => by simp [lk] at h
  | (j, z) :: r, k, x, hT, h => by
    by_cases e : j = k
    · subst e; rw [lk_cons_self] at h; cases h; exact hT.1
    · rw [lk_cons_ne e] at h; exact SubT.get hT.2 h
theorem SubL.get {B : Nat} {js : List Nat} {l : Locs} : ∀ {L : Locs} {k : Nat} {b : Blk}, SubL B js l L → lkl L k = some b → lkl l k = some b ∧ HardB B js k b
  | [], k, b, _, h => by simp [lkl, lk] at h
  | (j, z) :: r, k, b, hL, h => by
    by_cases e : j = k
    · subst e; rw [lkl_cons_self] at h; subst h; exact hL.1
    · cases z with
      | none => rw [lkl_cons_ne e] at h; exact SubL.get (L := r) hL h
      | some z => rw [lkl_cons_ne e] at h; exact SubL.get hL.2 h
section back
variable {N B : Nat} {g : Gh} {s : St} {a : Act} {w w' : World} {js : List Nat} {bs : List Nat} {L : Locs}
/-- The names behind a mark. -/
def Gh.after (g : Gh) (B : Nat) (L : Locs) : Gh := { g with I := fun b => b < B ∨ ∃ (j : Nat) (α : Type) (T : TypeId) (e : Enc α) (xs : List α), lkl L j = some (.arr T e xs true) ∧ b ∈ g.F j }
theorem hard_cell (p : Ph B g s w) (hb : ∀ b ∈ bs, ∃ j ∈ js, Via g s.l j b) (o : Only bs w w') (hL : SubL B js s.l L) {v : Value} {x : Cell} (hx : HardC B js x) (h : CellR g s.l w v x) : CellR (g.after B L) L w' v x := by
  have lo : ∀ b, b < B → b ∉ bs := fun b h1 h2 => by
    obtain ⟨j, _, hv⟩ := hb b h2
    have := p.own b hv.own
    omega
  have kp : ∀ b, b < B → w'.heap[b]? = w.heap[b]? := fun b h1 => o.keep b (Nat.lt_of_lt_of_le h1 p.le) (lo b h1)
  cases x with
  | c u => exact h
  | any => trivial
  | own j => exact fun α T e xs d hk => h α T e xs d (hL.get hk).1
  | ptr k off => exact fun cs hk => h cs (hL.get hk).1
  | slo B' e xs =>
    obtain rfl : B' = B := hx
    obtain ⟨a, n, cap, b1, h1, h2, h3⟩ := h
    exact ⟨a, n, cap, b1, h1, h2.keep (fun b hbb => kp b (h3 b hbb).2) o.size, fun b hbb => ⟨.inl (h3 b hbb).2, (h3 b hbb).2⟩⟩
  | epo B' e z off =>
    obtain rfl : B' = B := hx
    obtain ⟨gb, of, cs, b1, h1, h2, h3, h4, h5⟩ := h
    exact ⟨gb, of, cs, b1, h1, ⟨.inl h2.2, h2.2⟩, e.keep h3 (fun c hc => kp c (h4 c hc).2) o.size, fun c hc => ⟨.inl (h4 c hc).2, (h4 c hc).2⟩, fun j u hu => (World.cell?_of_block (w := w) (kp gb h2.2)).trans (h5 j u hu)⟩
  | _ => exact hx.elim
theorem hard_val (p : Ph B g s w) (hb : ∀ b ∈ bs, ∃ j ∈ js, Via g s.l j b) (o : Only bs w w') (hL : SubL B js s.l L) {v : Value} {x : AVal} (hx : HardV B js x) (h : VR g s.l w v x) : VR (g.after B L) L w' v x := by
  cases x with
  | one x => exact hard_cell p hb o hL hx h
  | agg xs =>
    obtain ⟨vs, h1, h2⟩ := h
    exact ⟨vs, h1, h2.mono fun a b hm hr => hard_cell p hb o hL (hardAll.get hx b hm) hr⟩
  | tup xs => exact hx.elim
theorem after_rep (r : Rep N g s a w) (p : Ph B g s w) (hb : ∀ b ∈ bs, ∃ j ∈ js, Via g s.l j b) (o : Only bs w w') {T : Tmps} (hT : SubT B js s.t T) (hL : SubL B js s.l L) :
    Rep N (g.after B L) ⟨T, L⟩ a w' ∧ Ph B (g.after B L) ⟨T, L⟩ w' ∧ Below B w w' := by
  have m := r.mem
  have lo : ∀ b ∈ bs, B ≤ b := fun b h2 => by
    obtain ⟨j, _, hv⟩ := hb b h2
    exact p.own b hv.own
  have out : ∀ {k blk}, lkl L k = some blk → liv g k blk → g.ρ k ∉ bs := fun {k blk} hk hl hm => by
    obtain ⟨hk', hh⟩ := hL.get hk
    obtain ⟨j, hj, α, T, e, xs, h1, h2⟩ := hb _ hm
    have hne : k ≠ j := fun e => by
      subst e
      rw [hk'] at h1; cases h1
      exact noId_of hh.2 hj
    rcases h2 with ⟨h3, h4⟩ | h3
    · exact m.dis k j _ _ hne hk' h1 hl h3 h4
    · exact m.notI hk' hl ((m.fr j α T e xs h1).2 _ h3).1
  have outF : ∀ {k : Nat} {α : Type} {T : TypeId} {e : Enc α} {xs : List α}, lkl L k = some (.arr T e xs true) → ∀ b ∈ g.F k, b ∉ bs := fun {k α T e xs} hk b hbF hm => by
    obtain ⟨hk', hh⟩ := hL.get hk
    obtain ⟨j, hj, hv⟩ := hb _ hm
    have : k = j := Via.disj m ⟨α, T, e, xs, hk', .inr hbF⟩ hv
    subst this
    exact noId_of hh.2 hj
  have own : ∀ {b}, OwnB (g.after B L) L b → OwnB g s.l b := fun {b} ⟨k, blk, hk, h⟩ => ⟨k, blk, (hL.get hk).1, h⟩
  have nI : ∀ {k blk}, lkl L k = some blk → liv g k blk → ¬ (g.after B L).I (g.ρ k) := fun {k blk} hk hl hI => by
    rcases hI with h1 | ⟨j, α, T, e, xs, h1, h2⟩
    · have := p.own _ (OwnB.of_live (hL.get hk).1 hl); omega
    · exact m.notI (hL.get hk).1 hl ((m.fr j α T e xs (hL.get h1).1).2 _ h2).1
  have hp : ∀ {k blk}, lkl L k = some blk → liv g k blk → w'.heap[g.ρ k]? = w.heap[g.ρ k]? := fun {k blk} hk hl => o.keep _ (m.lt (hL.get hk).1 hl) (out hk hl)
  have hpF : ∀ {k : Nat} {α : Type} {T : TypeId} {e : Enc α} {xs : List α}, lkl L k = some (.arr T e xs true) → ∀ b ∈ g.F k, w'.heap[b]? = w.heap[b]? := fun {k α T e xs} hk b hbF => o.keep b (m.ilt b ((m.fr k α T e xs (hL.get hk).1).2 b hbF).1) (outF hk b hbF)
  refine ⟨⟨r.size, r.defers, fun k x hk => ?_, ⟨fun b hI => ?_, fun k cs hk => ?_, fun k α T e xs d hk => ?_, fun j k b b' hjk hj hk lj lk => m.dis j k b b' hjk (hL.get hj).1 (hL.get hk).1 lj lk, fun k α T e xs hk => ?_, fun j k α β T U e f xs ys hjk hj hk => m.fd j k α β T U e f xs ys hjk (hL.get hj).1 (hL.get hk).1⟩⟩,
    ⟨Nat.le_trans p.le o.size, fun b hb => .inl hb, fun b hb => p.own b (own hb)⟩, o.os, o.tape, o.output, o.size, fun b h1 => o.keep b (Nat.lt_of_lt_of_le h1 p.le) fun h2 => by have := lo b h2; omega⟩
  · obtain ⟨h1, h2⟩ := hT.get hk
    exact hard_val p hb o hL h2 (r.tmp k x h1)
  · refine Nat.lt_of_lt_of_le ?_ o.size
    rcases hI with h1 | ⟨j, α, T, e, xs, h1, h2⟩
    · exact Nat.lt_of_lt_of_le h1 p.le
    · exact m.ilt b ((m.fr j α T e xs (hL.get h1).1).2 b h2).1
  · obtain ⟨h1, h2⟩ := hL.get hk
    obtain ⟨vs, t, h3, h4, h5⟩ := m.box k cs h1
    exact ⟨vs, t, (hp hk trivial).trans h3, h4.mono fun a x hx hr => hard_cell p hb o hL (hardAll.get h2 x hx) hr, nI hk trivial⟩
  · obtain ⟨h1, h2, h3⟩ := hL.get hk
    subst h2
    rcases m.arr k α T e xs true h1 with h4 | ⟨cap, vs, bss, a1, a2, a3, a4, a5, a6, a7, a8, a9⟩
    · exact .inl h4
    · have hl : liv g k (.arr T e xs true) := by show g.hd k ≠ _; rw [a1]; intro e; cases e
      refine .inr ⟨cap, vs, bss, a1, a2, a3, (hp hk hl).trans a4, a5, a6.keep (hp hk hl) (fun b hb => hpF hk b (by rw [a9 rfl]; exact hb)) o.size, fun b hb => .inr ⟨k, α, T, e, xs, hk, by rw [a9 rfl]; exact hb⟩, nI hk hl, a9⟩
  · obtain ⟨h1, h2, h3⟩ := hL.get hk
    obtain ⟨n1, n2⟩ := m.fr k α T e xs h1
    exact ⟨n1, fun b hb => ⟨.inr ⟨k, α, T, e, xs, hk, hb⟩, by
      obtain ⟨_, c, t, h4⟩ := n2 b hb
      exact ⟨c, t, (hpF hk b hb).trans h4⟩⟩⟩
end back

/-! ### Regions in which a mark is called -/
def LM (P : Program) (N B : Nat) (ops : Array Oper) (Kn : St → Prop) (l : List Oper) (s : St) : Prop :=
  ∀ (Q : Exit → St → Prop) (Z : Exit → Act → World → Prop) (g : Gh) (a : Act) (w : World), Rep N g s a w → Ph B g s w → (∀ e a' w', EndsM N B w (NormR Kn Q) e a' w' → Z e a' w') → wpList P ops Z l a w
section lm
variable {P : Program} {N B : Nat} {ops : Array Oper} {Kn : St → Prop} {s : St}
theorem AM_regionM {id : Nat} {l : List Oper} {Q : Exit → St → Prop} (h : LM P N B l.toArray Kn l s) : AM P N B (.region id l.toArray false) Kn Q s := fun g a w r p => wp_region_lit (h Q _ g a w r p fun _ _ _ h => h)
theorem LM_nil (h : Kn s) : LM P N B ops Kn [] s := fun Q Z g a w r p hz => hz _ _ _ ⟨g, s, r, p, Below.refl _ _, h⟩
theorem LM_p {dst : Option Nat} {op : Op} {ty : TypeId} {pos : String} {after : Array Edge} {c : Cert} {r : List Oper} {s' : St} (h : Stp P N ⟨dst, op, ty, pos, after, none⟩ s s' c) (next : LM P N B ops Kn r s') : LM P N B ops Kn (⟨dst, op, ty, pos, after, none⟩ :: r) s := fun Q Z g a w R p hz => by
  obtain ⟨h1, h2, h3⟩ := h
  have h4 := h1 [] g s a w h2 R
  rw [h3] at h4
  unfold wpList
  rw [if_pos (by simp [Region.wanted])]
  refine .inl (Oper.wp_weak (fun a' w' ⟨g', r', hs'⟩ => ?_) h4)
  obtain ⟨p2, b2⟩ := p.step hs'
  exact next Q Z g' a' w' r' p2 fun e a2 w2 h5 => hz e a2 w2 (h5.back b2)
/-- A function that writes a datum anew. -/
def MarkA (P : Program) (f : FuncId) {α : Type} (e : Enc α) (x : α) (k r : Int) (x' : α) : Prop :=
  ∀ (w : World) (cs : List Value) (bs : List Nat), e.rep w cs x bs → Fresh 0 w bs → Calls P f #[.agg cs.toArray, .int .i64 k] w fun e' w' => e' = .returned (.int .i64 r) ∧ e.rep w' cs x' bs ∧ Only bs w w'
def MarkO (P : Program) (f : FuncId) {α : Type} (e : Enc α) (x : List α) (k r : Int) (x' : List α) : Prop :=
  ∀ (w : World) (a : Option Addr) (n cap : Nat) (bs : List Nat), SliceRep e w a n cap x bs → Fresh 0 w bs → Calls P f #[.slice a n cap, .int .i64 k] w fun e' w' => e' = .returned (.int .i64 r) ∧ SliceRep e w' a n cap x' bs ∧ Only bs w w'
theorem via_fresh {g : Gh} {l : Locs} {w : World} (m : MemR g l w) {js bs : List Nat} (h : bs.Nodup ∧ ∀ b ∈ bs, ∃ j ∈ js, Via g l j b) : Fresh 0 w bs := ⟨h.1, fun b hb => by
  obtain ⟨j, _, hv⟩ := h.2 b hb
  exact ⟨Nat.zero_le _, hv.cells m⟩⟩
section mark
variable {d : Nat} {fo x y : Operand} {f : FuncId} {ats : Array TypeId} {ty : TypeId} {pos : String} {after : Array Edge} {r : List Oper} {k r' : Int}
/-- The mark of a struct, of which nothing is asked behind. -/
theorem LM_markA {cs ds : List Cell} {js : List Nat} {α : Type} {e : Enc α} {F : α → List Cell} [hc : CellsOf e F] {z z' : α} (T : Tmps) (L : Locs) (hN : Nat.blt d N = true) (hev : evo s.t fo = some (.one (.clo f []))) (hx : evo s.t x = some (.agg cs)) (hy : evo s.t y = some (.one (.c (.int .i64 k))))
    (hf : Callable P f) (hM : MarkA P f e z k r' z') (hm : mvC s.l cs = some (ds, js, true)) (hj : noDup js = true) (hfit : FitL ds (F z)) (hw : wfV (.int .i64 r')) (hT : SubT B js s.t T) (hL : SubL B js s.l L)
    (next : LM P N B ops Kn r ⟨(d, .one (.c (.int .i64 r'))) :: T, L⟩) : LM P N B ops Kn (⟨some d, .call { callee := .value fo, args := #[x, y], argTypes := ats }, ty, pos, after, none⟩ :: r) s := fun Q Z g a w R p hz => by
  have hfe : a.eval fo = .func (.func f) #[] #[] := (eval_ok R (evs_of hev) (rdo_of hev) : CellR g s.l w (a.eval fo) (.clo f [])) (fun k hk => by cases hk)
  obtain ⟨vs, h1, h2⟩ : ∃ vs : List Value, a.eval x = .agg vs.toArray ∧ All2 (CellR g s.l w) vs cs := eval_ok R (evs_of hx) (rdo_of hx)
  obtain ⟨h3, _⟩ : a.eval y = .int .i64 k ∧ wfV (.int .i64 k) := eval_ok R (evs_of hy) (rdo_of hy)
  obtain ⟨bs, f1, f2, f3⟩ := mvC_ok R.mem h2 hm (noDup_of hj)
  have hr : e.rep w vs z bs := hc.iff.2 (f1.fit hfit)
  unfold wpList
  rw [if_pos (by simp [Region.wanted])]
  refine .inl ?_
  unfold Oper.wp
  rw [run_enter rfl hf hfe, Oper.upon_enter]
  simp only [List.map_toArray, List.map_cons, List.map_nil, h1, h3, Array.append_empty]
  refine (hM w vs bs hr (via_fresh R.mem (f3 rfl))).mono ?_
  rintro e' w' ⟨rfl, _, o⟩
  obtain ⟨q1, q2, q3⟩ := after_rep R p (f3 rfl).2 o hT hL
  have q4 : Rep N (g.after B L) ⟨(d, .one (.c (.int .i64 r'))) :: T, L⟩ (a.put (some d) (.int .i64 r')) w' := q1.put (blt_lt hN) ⟨rfl, hw⟩
  exact next Q Z _ _ _ q4 ⟨q2.le, q2.old, q2.own⟩ fun e a2 w2 h5 => hz e a2 w2 (h5.back q3)
/-- What a slot says, at a new phase behind a mark. -/
inductive Stay (B B' : Nat) : AVal → AVal → Prop
  | c {v : Value} : Stay B B' (.one (.c v)) (.one (.c v))
  | epo {α : Type} {e : Enc α} {x : α} {o : Nat} : Stay B B' (.one (.epo B e x o)) (.one (.epo B' e x o))
  | slo {α : Type} {e : Enc α} {xs : List α} : Stay B B' (.one (.slo B e xs)) (.one (.slo B' e xs))
def StayT (B B' : Nat) (t : Tmps) : Tmps → Prop
  | [] => True
  | (k, x) :: r => (∃ y, lk t k = some y ∧ Stay B B' y x) ∧ StayT B B' t r
theorem StayT.get {B B' : Nat} {t : Tmps} : ∀ {T : Tmps} {k : Nat} {x : AVal}, StayT B B' t T → lk T k = some x → ∃ y, lk t k = some y ∧ Stay B B' y x
  | [], k, x, _, h => by simp [lk] at h
  | (j, z) :: r, k, x, hT, h => by
    by_cases e : j = k
    · subst e; rw [lk_cons_self] at h; cases h; exact hT.1
    · rw [lk_cons_ne e] at h; exact StayT.get hT.2 h
theorem Stay.ok {g : Gh} {l : Locs} {B : Nat} {w w' : World} {v : Value} {x y : AVal} (hs : w.heap.size ≤ w'.heap.size) (hB : B ≤ w.heap.size) (hk : ∀ b, b < B → w'.heap[b]? = w.heap[b]?) (h : Stay B w'.heap.size x y) (hv : VR g l w v x) : VR (allI w') [] w' v y := by
  cases h with
  | c => exact hv
  | epo =>
    obtain ⟨gb, o, cs, b, h1, h2, h3, h4, h5⟩ := hv
    have lt : ∀ c, c < B → c < w'.heap.size := fun c hc => by omega
    exact ⟨gb, o, cs, b, h1, ⟨lt _ h2.2, lt _ h2.2⟩, Enc.keep _ h3 (fun c hc => hk c (h4 c hc).2) hs, fun c hc => ⟨lt _ (h4 c hc).2, lt _ (h4 c hc).2⟩, fun j u hu => (World.cell?_of_block (w := w) (hk gb h2.2)).trans (h5 j u hu)⟩
  | slo =>
    obtain ⟨a, n, cap, bs, h1, h2, h3⟩ := hv
    have lt : ∀ c, c < B → c < w'.heap.size := fun c hc => by omega
    exact ⟨a, n, cap, bs, h1, h2.keep (fun b hb => hk b (h3 b hb).2) hs, fun b hb => ⟨lt _ (h3 b hb).2, lt _ (h3 b hb).2⟩⟩
theorem stay_rep {B : Nat} {g : Gh} {s : St} {a : Act} {w w' : World} {js bs : List Nat} (R : Rep N g s a w) (p : Ph B g s w) (hb : ∀ b ∈ bs, ∃ j ∈ js, Via g s.l j b) (o : Only bs w w') {T : Tmps} (hT : StayT B w'.heap.size s.t T) :
    Rep N (allI w') ⟨T, []⟩ a w' ∧ Ph w'.heap.size (allI w') ⟨T, []⟩ w' ∧ Below B w w' := by
  obtain ⟨q1, q2, q3⟩ := after_rep (T := []) (L := []) R p hb o trivial trivial
  refine ⟨⟨R.size, R.defers, fun k x hk => ?_, allI_mem w'⟩, ⟨Nat.le_refl _, fun b hb => hb, fun b ⟨k, blk, hk, _⟩ => by simp [lkl, lk] at hk⟩, q3⟩
  obtain ⟨y, h1, h2⟩ := hT.get hk
  exact h2.ok o.size p.le q3.block (R.tmp k y h1)
/-- .. of a slice in slot t. -/
theorem LM_markOK {i : Nat} {α : Type} {U : TypeId} {e : Enc α} {z z' : List α} (t : Nat) (T : Nat → Tmps) (hN : Nat.blt d N = true) (hev : evo s.t fo = some (.one (.clo f []))) (hx : evo s.t x = some (.one (.own i))) (hy : evo s.t y = some (.one (.c (.int .i64 k))))
    (ht : lk s.t t = some (.one (.own i))) (hf : Callable P f) (hM : MarkO P f e z k r' z') (hl : lkl s.l i = some (.arr U e z true)) (hw : wfV (.int .i64 r')) (hT : ∀ B', StayT B B' s.t (T B'))
    (next : ∀ B', LM P N B' ops Kn r ⟨(d, .one (.c (.int .i64 r'))) :: (t, .one (.slo B' e z')) :: T B', []⟩) : LM P N B ops Kn (⟨some d, .call { callee := .value fo, args := #[x, y], argTypes := ats }, ty, pos, after, none⟩ :: r) s := fun Q Z g a w R p hz => by
  have hfe : a.eval fo = .func (.func f) #[] #[] := (eval_ok R (evs_of hev) (rdo_of hev) : CellR g s.l w (a.eval fo) (.clo f [])) (fun k hk => by cases hk)
  have h1 : a.eval x = g.hd i := (eval_ok R (evs_of hx) (rdo_of hx) : CellR g s.l w (a.eval x) (.own i)) _ _ _ _ _ hl
  have ht1 : a.tmps.getD t undef = g.hd i := (R.tmp t _ ht : CellR g s.l w _ (.own i)) _ _ _ _ _ hl
  obtain ⟨h3, _⟩ : a.eval y = .int .i64 k ∧ wfV (.int .i64 k) := eval_ok R (evs_of hy) (rdo_of hy)
  obtain ⟨bs, f1, f2, f3⟩ := mvC_ok R.mem (vs := [a.eval x]) (cs := [.own i]) (ds := [.sl e z]) (js := [i]) (d := true) ⟨eval_ok R (evs_of hx) (rdo_of hx), trivial⟩ (by simp [mvC, hl]) (by simp)
  obtain ⟨b1, b2, rfl, ⟨ad, n, cap, e1, e2⟩, rfl⟩ := f1
  rw [List.append_nil] at f2 f3
  unfold wpList
  rw [if_pos (by simp [Region.wanted])]
  refine .inl ?_
  unfold Oper.wp
  rw [run_enter rfl hf hfe, Oper.upon_enter]
  simp only [List.map_toArray, List.map_cons, List.map_nil, e1, h3, Array.append_empty]
  refine (hM w ad n cap b1 e2 (via_fresh R.mem (f3 rfl))).mono ?_
  rintro e' w' ⟨rfl, hr', o⟩
  obtain ⟨q1, q2, q3⟩ := stay_rep R p (f3 rfl).2 o (hT w'.heap.size)
  have hep : VR (allI w') [] w' (a.tmps.getD t undef) (.one (.slo w'.heap.size e z')) := by
    rw [ht1, ← h1, e1]
    exact ⟨ad, n, cap, b1, rfl, hr', fun c hc => ⟨hr'.lt c hc, hr'.lt c hc⟩⟩
  have q5 : Rep N (allI w') ⟨(t, .one (.slo w'.heap.size e z')) :: T w'.heap.size, []⟩ a w' := ⟨q1.size, q1.defers, fun j y hj => by
    by_cases ej : t = j
    · subst ej; rw [lk_cons_self] at hj; cases hj; exact hep
    · rw [lk_cons_ne ej] at hj; exact q1.tmp j y hj, q1.mem⟩
  have q4 : Rep N (allI w') ⟨(d, .one (.c (.int .i64 r'))) :: (t, .one (.slo w'.heap.size e z')) :: T w'.heap.size, []⟩ (a.put (some d) (.int .i64 r')) w' := q5.put (blt_lt hN) ⟨rfl, hw⟩
  exact next w'.heap.size Q Z _ _ _ q4 ⟨q2.le, q2.old, q2.own⟩ fun e a2 w2 h5 => hz e a2 w2 ((h5.down (Nat.le_trans p.le o.size)).back q3)
end mark
end lm
/-- A variable that is read alone since an earlier phase. -/
def upC (B : Nat) : Cell → Cell
  | .sl e xs => .slo B e xs
  | c => c
theorem FR.all2o {g : Gh} {l : Locs} {w : World} {B : Nat} : ∀ {vs : List Value} {cs : List Cell} {b : List Nat}, FR w vs cs b → (∀ i ∈ b, g.I i ∧ i < B) → All2 (CellR g l w) vs (cs.map (upC B))
  | [], [], b, _, _ => trivial
  | v :: vs, c :: cs, b, h, hI => by
    obtain ⟨b1, b2, rfl, h1, h2⟩ := h
    refine ⟨?_, FR.all2o h2 fun i hi => hI i (List.mem_append_right _ hi)⟩
    cases c with
    | c u => exact ⟨h1.1, h1.2.1⟩
    | sl e xs =>
      obtain ⟨a, n, cap, h3, h4⟩ := h1
      exact ⟨a, n, cap, b1, h3, h4, fun i hi => hI i (List.mem_append_left _ hi)⟩
    | rx e x us b j =>
      obtain ⟨h3, h4, rfl⟩ := h1
      exact ⟨h3, h4, fun i hi => (hI i (List.mem_append_left _ hi)).1⟩
    | _ => exact h1.elim
section pload
variable {P : Program} {N : Nat} {s : St} {d : Nat} {ty : TypeId} {pos : String} {after : Array Edge} {gd : Option (Nat × Bool)}
theorem x_pload {α : Type} {e : Enc α} {f : α → List Cell} [hc : CellsOf e f] {T B n : Nat} {x : Operand} {z : α} {cs : List Cell} (hN : Nat.blt d N = true) (h : evo s.t x = some (.one (.epo B e z 0))) (hT : kindT P T = some (some n)) (hl : (f z).length = n) (hcs : (f z).map (upC B) = cs) :
    Stp P N ⟨some d, .load T x, ty, pos, after, gd⟩ s ⟨(d, .agg cs) :: s.t, s.l⟩ ⟨rdo x (.one (.epo B e z 0)), [], [(d, .agg cs)], [], []⟩ :=
  Stp.pure rfl hN (rdo_of h) (by simp) fun g s' a w ht hl' r => by
    obtain ⟨gb, o, vs, b, h1, h2, h3, h4, h5⟩ : CellR g s'.l w (a.eval x) (.epo B e z 0) := eval_ok r (evs_of h) ht
    have hfr := hc.iff.1 h3
    subst hcs
    have hlen : vs.length = n := by rw [← hl]; exact hfr.length
    have hrun := run_load_agg (P := P) (T := T) hT (w := w) (a := ⟨gb, o + 0, none⟩) hlen (fun j v hj => by rw [addr_add]; exact h5 j v hj)
    exact ⟨_, by simp only [execOp, Instr.loadAt, h1, Instr.sureAddr, Sem.run_bind, Sem.run_pure, Result.andThen_ok, hrun], ⟨vs, rfl, hfr.all2o fun i hi => h4 i hi⟩⟩
end pload
/-! ### The entry of a law -/
def EndT (r : Nat) (s : St) : Prop := lk s.t r = some (.one (.c (.bool true)))
def EndQ (r : Nat) : Exit → St → Prop
  | .ret, s => EndT r s
  | _, _ => False
theorem AM_law {P : Program} {f : FuncId} {fn : Func} {c : Code} {N r : Nat} {args : List AVal} (hf : P.funcs[f]? = some fn) (hb : fn.body = some c) (hN : fn.ntmps = N) (hA : Nat.ble args.length N = true) (hr : fn.results = #[.tmp r])
    (w : World) (cargs : Array Value) (ha : All2 (VR1 (allI w) [] w) cargs.toList args) (h : ∀ B, AM P N B c (EndT r) (EndQ r) ⟨args0 args 0, []⟩) : Calls P f cargs w fun e w' => e = .returned (.bool true) ∧ Below w.heap.size w w' := by
  subst hN
  have R := entry_rep (N := fn.ntmps) (allI_mem w) ha (Nat.le_of_ble_eq_true hA)
  refine calls_of_wp hf hb (Go.wp_mono (h w.heap.size (allI w) _ w R ⟨Nat.le_refl _, fun b hb => hb, fun b ⟨k, blk, hk, _⟩ => by simp [lkl, lk] at hk⟩) ?_)
  rintro e a1 w1 ⟨g1, s1, R1, p1, b1, hR⟩
  have fin : EndT r s1 → a1.defers = [] ∧ ∃ v, (results fn a1.tmps).run P w1 = .ok v w1 ∧ Ending.returned v = .returned (.bool true) ∧ Below w.heap.size w w1 := fun ht => by
    have hv : a1.tmps.getD r undef = .bool true ∧ wfV (.bool true) := R1.tmp r _ ht
    exact ⟨R1.defers, _, results_tmp hr _ _ _, by rw [hv.1], b1⟩
  cases e with
  | normal => exact fin hR
  | ret => exact fin hR
  | exit id => exact hR.elim
  | goto l => exact hR.elim
  | panic ch => exact hR.elim
  | outgrown => exact hR.elim
end Go.Proofs.Ytkemjhlbokldhaa

/- The laws' own functions: GenC (printed by gen.py) -/
namespace Go.Proofs.Ytkemjhlbokldhaa
open Go.RowKit
set_option linter.unusedVariables false
set_option maxRecDepth 100000

structure Namedt where
  name : ByteArray
  rel : Relt
structure Storet where
  rels : List (Namedt)
end Go.Proofs.Ytkemjhlbokldhaa

/- Right stores and like stores, in plain words. -/
namespace Go.Proofs.Ytkemjhlbokldhaa
open Go.RowKit
set_option linter.unusedVariables false

/-! A test at each place of a list. -/
def AllAt {n : Nat} (p : (k : Nat) → k < n → Bool) (k : Nat) : Prop := ∀ j (h : j < n), j < k → p j h = true
theorem AllAt.zero {n : Nat} {p : (k : Nat) → k < n → Bool} : AllAt p 0 := fun _ _ h => absurd h (by omega)
theorem AllAt.succ {n : Nat} {p : (k : Nat) → k < n → Bool} {k : Nat} (h : AllAt p k) (hk : k < n) (hp : p k hk = true) : AllAt p (k + 1) := fun j hj hjk => by
  rcases Nat.lt_or_ge j k with h1 | h1
  · exact h j hj h1
  · obtain rfl : j = k := by omega
    exact hp
def everyB {n : Nat} (p : (k : Nat) → k < n → Bool) : Bool := (List.range n).all fun k => if h : k < n then p k h else true
theorem AllAt.all {n : Nat} {p : (k : Nat) → k < n → Bool} {k : Nat} (h : AllAt p k) (hk : n ≤ k) : everyB p = true := by
  unfold everyB
  rw [List.all_eq_true]
  intro j hj
  have hj' : j < n := by simpa using hj
  rw [dif_pos hj']
  exact h j hj' (by omega)
theorem inv_str {g : Gh} {l : Locs} {w : World} {v : Value} {s : ByteArray} (h : VR1 g l w v (.one (.c (.string s)))) : v = .string s ∧ s.size ≤ maxLen := h
theorem wordOkI_c (s : ByteArray) : AC Try.prog 103 [.one (.c (.string s))] [] (.one (.c (.bool (wordB s)))) [] :=
  AC.pure ⟨_, _, Try.func103, rfl, rfl⟩ trivial fun w g cargs h => by
    obtain ⟨x, rfl, h1⟩ := inv1 h
    obtain ⟨rfl, hs⟩ := inv_str h1
    exact (wordOkI_any s w hs).mono fun e w' ⟨h1, h2⟩ => ⟨h1, below_eq h2⟩
theorem wordOkS_c (s : ByteArray) : AC Try.prog 45 [.one (.c (.string s))] [] (.one (.c (.bool (wordB s)))) [] :=
  AC.pure ⟨_, _, Try.func45, rfl, rfl⟩ trivial fun w g cargs h => by
    obtain ⟨x, rfl, h1⟩ := inv1 h
    obtain ⟨rfl, hs⟩ := inv_str h1
    exact (wordOkS_any s w hs).mono fun e w' ⟨h1, h2⟩ => ⟨h1, below_eq h2⟩

def likeNamed (x y : Namedt) : Bool := x.name == y.name && likeRel x.rel y.rel
def LikeN (a b : List Namedt) (k : Nat) : Prop := ∀ j (h : j < a.length) (h' : j < b.length), j < k → likeNamed a[j] b[j] = true
theorem LikeN.zero {a b : List Namedt} : LikeN a b 0 := fun _ _ _ h => absurd h (by omega)
theorem LikeN.succ {a b : List Namedt} {k : Nat} (h : LikeN a b k) (hk : k < a.length) (hk' : k < b.length) (hs : likeNamed a[k] b[k] = true) : LikeN a b (k + 1) := fun j hj hj' hjk => by
  rcases Nat.lt_or_ge j k with h1 | h1
  · exact h j hj hj' h1
  · obtain rfl : j = k := by omega
    exact hs
end Go.Proofs.Ytkemjhlbokldhaa

/- Relations (printed by walk.py) -/
namespace Go.Proofs.Ytkemjhlbokldhaa
open Go.RowKit
set_option linter.unusedVariables false
set_option linter.unusedSimpArgs false
set_option maxRecDepth 100000


end Go.Proofs.Ytkemjhlbokldhaa

/- Rules and programs in plain words: what is well formed. -/
namespace Go.Proofs.Ytkemjhlbokldhaa
open Go.RowKit
set_option linter.unusedVariables false

theorem keptI_c (s : ByteArray) : AC Try.prog 110 [.one (.c (.string s))] [] (.one (.c (.bool (keptB s)))) [] :=
  AC.pure ⟨_, _, Try.func110, rfl, rfl⟩ trivial fun w g cargs h => by
    obtain ⟨x, rfl, h1⟩ := inv1 h
    obtain ⟨rfl, hs⟩ := inv_str h1
    exact (keptI_any s w).mono fun e w' ⟨h1, h2⟩ => ⟨h1, below_eq h2⟩
theorem keptS_c (s : ByteArray) : AC Try.prog 57 [.one (.c (.string s))] [] (.one (.c (.bool (keptB s)))) [] :=
  AC.pure ⟨_, _, Try.func57, rfl, rfl⟩ trivial fun w g cargs h => by
    obtain ⟨x, rfl, h1⟩ := inv1 h
    obtain ⟨rfl, hs⟩ := inv_str h1
    exact (keptS_any s w).mono fun e w' ⟨h1, h2⟩ => ⟨h1, below_eq h2⟩
theorem varOkI_c (s : ByteArray) : AC Try.prog 153 [.one (.c (.string s))] [] (.one (.c (.bool (varB s)))) [] :=
  AC.pure ⟨_, _, Try.func153, rfl, rfl⟩ trivial fun w g cargs h => by
    obtain ⟨x, rfl, h1⟩ := inv1 h
    obtain ⟨rfl, hs⟩ := inv_str h1
    exact (varOkI_any s w hs).mono fun e w' ⟨h1, h2⟩ => ⟨h1, below_eq h2⟩
theorem varOkS_c (s : ByteArray) : AC Try.prog 46 [.one (.c (.string s))] [] (.one (.c (.bool (varB s)))) [] :=
  AC.pure ⟨_, _, Try.func46, rfl, rfl⟩ trivial fun w g cargs h => by
    obtain ⟨x, rfl, h1⟩ := inv1 h
    obtain ⟨rfl, hs⟩ := inv_str h1
    exact (varOkS_any s w hs).mono fun e w' ⟨h1, h2⟩ => ⟨h1, below_eq h2⟩

def EachTo {α : Type} (g : α → Bool) (l : List α) (k : Nat) : Prop := (l.take k).all g = true
theorem EachTo.zero {α : Type} {g : α → Bool} {l : List α} : EachTo g l 0 := rfl
theorem EachTo.succ {α : Type} {g : α → Bool} {l : List α} {k : Nat} (h : EachTo g l k) (hk : k < l.length) (hg : g l[k] = true) : EachTo g l (k + 1) := by
  unfold EachTo at *; rw [List.take_succ_eq_append_getElem hk, List.all_append, h]; simp [hg]
theorem EachTo.all {α : Type} {g : α → Bool} {l : List α} {k : Nat} (h : EachTo g l k) (hk : l.length ≤ k) : l.all g = true := by
  unfold EachTo at h; rwa [List.take_of_length_le hk] at h
theorem EachTo.bad {α : Type} {g : α → Bool} {l : List α} {k : Nat} (hk : k < l.length) (hg : g l[k] = false) : l.all g = false := by
  rw [List.all_eq_false]; exact ⟨_, List.getElem_mem hk, by simp [hg]⟩
theorem EachTo.get {α : Type} {g : α → Bool} {l : List α} {k : Nat} (h : EachTo g l k) {j : Nat} (hj : j < k) (hl : j < l.length) : g l[j] = true := by
  unfold EachTo at h; rw [List.all_eq_true] at h
  exact h _ (List.mem_take_iff_getElem.2 ⟨j, by omega, rfl⟩)
def badIdx {α : Type} (g : α → Bool) (l : List α) : Int := if l.all g = true then -1 else (l.findIdx (fun x => !g x) : Nat)
theorem badIdx_at {α : Type} {g : α → Bool} {l : List α} {k : Nat} (h : EachTo g l k) (hk : k < l.length) (hg : g l[k] = false) : badIdx g l = k := by
  unfold badIdx
  rw [EachTo.bad hk hg]
  have : l.findIdx (fun x => !g x) = k := (List.findIdx_eq hk).2 ⟨by simp [hg], fun j hj => by simp [h.get hj (by omega)]⟩
  simp [this]
theorem badIdx_all {α : Type} {g : α → Bool} {l : List α} {k : Nat} (h : EachTo g l k) (hk : l.length ≤ k) : badIdx g l = -1 := by
  unfold badIdx; rw [h.all hk]; rfl
theorem badIdx_neg {α : Type} {g : α → Bool} {l : List α} : decide (badIdx g l ≥ 0) = !l.all g := by
  unfold badIdx; cases h : l.all g
  · simp
  · simp

def noVal : Val := ⟨0, ⟨#[]⟩⟩
def noTerm : Termt := ⟨⟨#[]⟩, noVal⟩
def termB (t : Termt) : Bool := if (t.var == (⟨#[]⟩ : ByteArray)) = true then valOk t.val && !keptB t.val.s else varB t.var && sameVal t.val noVal
def nameB (s : ByteArray) : Bool := wordB s && !keptB s
def atomB (a : Atomt) : Bool := nameB a.name && (decide (a.args.length ≤ 6) && a.args.all termB)
def sameTerm (a b : Termt) : Bool := a.var == b.var && sameVal a.val b.val
def litB (l : Litt) : Bool := if l.kind = 1 ∨ l.kind = 2 then atomB l.atom && (decide (l.op = 0) && (sameTerm l.a noTerm && sameTerm l.b noTerm))
  else if l.kind = 3 then decide (1 ≤ l.op ∧ l.op ≤ 4) && ((l.atom.name == (⟨#[]⟩ : ByteArray)) && (decide (l.atom.args.length = 0) && (termB l.a && termB l.b))) else false
def ruleB (r : Rulet) : Bool := decide (1 ≤ r.kind ∧ r.kind ≤ 3) && (atomB r.head && (decide (r.body.length ≤ 8) && r.body.all litB))
theorem equalIn_val' (x y : Val) (w : World) : (Op.equalIn 9999 68 (.agg #[.int .i64 x.n, .string x.s]) (.agg #[.int .i64 y.n, .string y.s])).run Try.prog w = .ok (sameVal x y) w := by
  have hS : Try.prog.underlying 68 = some (.struct (Try.prog.fieldsOf 68)) := by kernel_rfl
  have hp : Try.prog.stoodInHeld 68 = false := by kernel_rfl
  rw [show (9999 : Nat) = 9998 + 1 from rfl, run_equalIn_agg w 9998 68 _ _ hS hp]
  simp only [Program.fieldsOf, Try.underlying68]
  go_simp
  unfold sameVal
  rw [beq_toListBytes]
  by_cases h1 : x.n = y.n <;> by_cases h2 : x.s.toList = y.s.toList <;> simp [h1, h2]
theorem equalIn_str' (x y : ByteArray) (w : World) : (Op.equalIn 9999 9 (.string x) (.string y)).run Try.prog w = .ok (x == y) w := by
  rw [show (9999 : Nat) = 9998 + 1 from rfl]
  go_simp
  rw [beq_toListBytes]
theorem equalIn_term (x y : Termt) (w : World) : (Op.equalIn 10000 70 (.agg #[.string x.var, .int .i64 x.val.n, .string x.val.s]) (.agg #[.string y.var, .int .i64 y.val.n, .string y.val.s])).run Try.prog w = .ok (sameTerm x y) w := by
  have hS : Try.prog.underlying 70 = some (.struct (Try.prog.fieldsOf 70)) := by kernel_rfl
  have hp : Try.prog.stoodInHeld 70 = false := by kernel_rfl
  have hv := fun w => equalIn_val' x.val y.val w
  have hs := fun w => equalIn_str' x.var y.var w
  rw [show (10000 : Nat) = 9999 + 1 from rfl, run_equalIn_agg w 9999 70 _ _ hS hp]
  simp only [Program.fieldsOf, Try.underlying70]
  generalize (9999 : Nat) = n at *
  go_simp
  unfold sameTerm
  cases x.var == y.var <;> cases sameVal x.val y.val <;> rfl
theorem guard_term (op : BinOp) (x y : Operand) (a b : Termt) (w : World) : (eqGuard op 70 x y (.agg #[.string a.var, .int .i64 a.val.n, .string a.val.s]) (.agg #[.string b.var, .int .i64 b.val.n, .string b.val.s])).run Try.prog w = .ok () w := by
  have hg : Try.prog.eqGuardType Try.prog.depth 70 = false := by kernel_rfl
  unfold eqGuard
  cases op <;> simp [hg]
section
variable {N : Nat} {s : St} {d : Nat} {ty : TypeId} {pos : String} {after : Array Edge} {gd : Option (Nat × Bool)} {T' : TypeId} {x y : Operand} {a b : Termt}
theorem x_teql (hN : Nat.blt d N = true) (h : evo s.t x = some (.agg (termC a))) (h2 : evo s.t y = some (.agg (termC b))) :
    Stp Try.prog N ⟨some d, .binOp .eql 70 x y T', ty, pos, after, gd⟩ s ⟨(d, .one (.c (.bool (sameTerm a b)))) :: s.t, s.l⟩ ⟨rdo x (.agg (termC a)) ++ rdo y (.agg (termC b)), [], [(d, .one (.c (.bool (sameTerm a b))))], [], []⟩ :=
  Stp.pure rfl hN (two_rd h h2) (by simp) fun g s' ac w ht hl' r => by
    have one : ∀ {o : Operand} {c : Termt}, Evs o (.agg (termC c)) → (∀ p ∈ rdo o (.agg (termC c)), lk s'.t p.1 = some p.2) → ac.eval o = .agg #[.string c.var, .int .i64 c.val.n, .string c.val.s] := fun {o c} he hp => by
      obtain ⟨vs, e1, e2⟩ : VR g s'.l w (ac.eval o) (.agg (termC c)) := eval_ok r he hp
      match vs, e2 with
      | [t, u, v], ⟨⟨f1, _⟩, ⟨f2, _⟩, ⟨f3, _⟩, _⟩ => subst f1; subst f2; subst f3; exact e1
    have e1 := one (evs_of h) fun p hp => ht p (List.mem_append_left _ hp)
    have e2 := one (evs_of h2) fun p hp => ht p (List.mem_append_right _ hp)
    refine ⟨.bool (sameTerm a b), run_binOp rfl ?_, rfl, trivial⟩
    rw [e1, e2]
    simp only [Sem.run_bind, guard_term, Result.andThen_ok, binOp, Op.equal, Op.maxDepth, equalIn_term, Sem.run_pure]
end
end Go.Proofs.Ytkemjhlbokldhaa

/- Loads from the elements of an own array, in the abstract walk. -/
namespace Go.Proofs.Ytkemjhlbokldhaa
open Go.RowKit
set_option linter.unusedVariables false
section
variable {P : Program} {N d : Nat} {s : St} {ty : TypeId} {pos : String} {after : Array Edge} {gd : Option (Nat × Bool)}
end
end Go.Proofs.Ytkemjhlbokldhaa

/- Rules and programs that are well formed (printed by walk.py) -/
namespace Go.Proofs.Ytkemjhlbokldhaa
open Go.RowKit
set_option linter.unusedVariables false
set_option linter.unusedSimpArgs false
set_option maxRecDepth 100000

set_option maxHeartbeats 4000000 in
theorem nameI_c (s : ByteArray) : AC Try.prog 78 [.one (.c (.string s))] [] (.one (.c (.bool (nameB s)))) [] := by
  refine AC_body1 Try.func78 rfl rfl Try.ntmps78 rfl Try.results78 ?_
  refine AW_seq ?_
  refine AW_region ?_
  refine AL_p (x_assign rfl rfl) ?_
  refine AL_nil ?_
  refine AW_seq ?_
  refine AW_region ?_
  refine AL_p (x_move rfl rfl) ?_
  refine AL_b (x_call0 rfl rfl rfl (wordOkI_c _) rfl rfl) (fun b4 h4 => ?_)
  refine AL_p (x_move rfl rfl) ?_
  cases b4
  · try simp only [tdy] at h4
    refine AL_o rfl rfl rfl rfl ?_
    refine AL_o rfl rfl rfl rfl ?_
    refine AL_o rfl rfl rfl rfl ?_
    refine AL_p (x_pickF rfl rfl rfl) ?_
    refine AL_p (x_assign rfl rfl) ?_
    refine AL_nil ?_
    refine AW_ret ?_
    exact ⟨rn [], ⟨⟨⟨_, rfl, vle_bool (by simp [nameB, *])⟩, trivial⟩, trivial, trivial, rfl⟩⟩
  try simp only [tdy] at h4
  refine AL_g rfl rfl (x_move rfl rfl) ?_
  refine AL_gb rfl rfl (x_call0 rfl rfl rfl (keptI_c _) rfl rfl) (fun b7 h7 => ?_)
  refine AL_g rfl rfl (x_not rfl rfl) ?_
  refine AL_p (x_pickT rfl rfl rfl) ?_
  refine AL_p (x_assign rfl rfl) ?_
  refine AL_nil ?_
  refine AW_ret ?_
  cases b7
  rotate_left
  · try simp only [tdy] at h7
    exact ⟨rn [], ⟨⟨⟨_, rfl, vle_bool (by simp [nameB, *])⟩, trivial⟩, trivial, trivial, rfl⟩⟩
  try simp only [tdy] at h7
  exact ⟨rn [], ⟨⟨⟨_, rfl, vle_bool (by simp [nameB, *])⟩, trivial⟩, trivial, trivial, rfl⟩⟩

set_option maxHeartbeats 4000000 in
theorem termI_c (t : Termt) : AC Try.prog 132 [.agg (termC t)] [] (.one (.c (.bool (termB t)))) [] := by
  refine AC_body1 Try.func132 rfl rfl Try.ntmps132 rfl Try.results132 ?_
  refine AW_seq ?_
  refine AW_region ?_
  refine AL_p (x_box 100 rfl rfl rfl rfl rfl rfl rfl) ?_
  refine AL_p (x_assign rfl rfl) ?_
  refine AL_nil ?_
  refine AW_seq ?_
  refine AW_seq ?_
  refine AW_region ?_
  refine AL_p (x_field (off := 0) (o' := 0) rfl rfl rfl (by kernel_rfl) rfl) ?_
  refine AL_p (x_load1 rfl rfl rfl (by kernel_rfl) rfl) ?_
  refine AL_b (x_sneq rfl rfl rfl) (fun b5 h5 => ?_)
  refine AL_nil ?_
  cases b5
  rotate_left
  · try simp only [tdy] at h5
    refine AW_condT rfl ?_
    refine AW_seq ?_
    refine AW_region ?_
    refine AL_p (x_field (off := 0) (o' := 0) rfl rfl rfl (by kernel_rfl) rfl) ?_
    refine AL_p (x_load1 rfl rfl rfl (by kernel_rfl) rfl) ?_
    refine AL_b (x_call0 rfl rfl rfl (varOkI_c _) rfl rfl) (fun b8 h8 => ?_)
    refine AL_p (x_move rfl rfl) ?_
    cases b8
    · try simp only [tdy] at h8
      refine AL_o rfl rfl rfl rfl ?_
      refine AL_o rfl rfl rfl rfl ?_
      refine AL_o rfl rfl rfl rfl ?_
      refine AL_o rfl rfl rfl rfl ?_
      refine AL_p (x_pickF rfl rfl rfl) ?_
      refine AL_p (x_assign rfl rfl) ?_
      refine AL_nil ?_
      refine AW_ret ?_
      exact ⟨rn [], ⟨⟨⟨_, rfl, vle_bool (by simp [termB, *])⟩, trivial⟩, trivial, trivial, rfl⟩⟩
    try simp only [tdy] at h8
    refine AL_g rfl rfl (x_field (off := 1) (o' := 1) rfl rfl rfl (by kernel_rfl) rfl) ?_
    refine AL_g rfl rfl (x_loadN (n := 2) rfl rfl rfl (by kernel_rfl) rfl rfl) ?_
    refine AL_g rfl rfl (x_build (zs := [.int .i64 0, .string ⟨#[]⟩]) (places := [(0, 1), (1, 1)]) rfl (by kernel_rfl) rfl rfl rfl rfl rfl) ?_
    refine AL_gb rfl rfl (x_veql (a := t.val) (b := noVal) rfl rfl rfl) (fun b13 h13 => ?_)
    refine AL_p (x_pickT rfl rfl rfl) ?_
    refine AL_p (x_assign rfl rfl) ?_
    refine AL_nil ?_
    refine AW_ret ?_
    cases b13
    rotate_left
    · try simp only [tdy] at h13
      exact ⟨rn [], ⟨⟨⟨_, rfl, vle_bool (by simp [termB, *])⟩, trivial⟩, trivial, trivial, rfl⟩⟩
    try simp only [tdy] at h13
    exact ⟨rn [], ⟨⟨⟨_, rfl, vle_bool (by simp [termB, *])⟩, trivial⟩, trivial, trivial, rfl⟩⟩
  try simp only [tdy] at h5
  refine AW_condF rfl ?_
  refine AW_skip ?_
  refine AW_seq ?_
  refine AW_region ?_
  refine AL_p (x_field (off := 1) (o' := 1) rfl rfl rfl (by kernel_rfl) rfl) ?_
  refine AL_p (x_loadN (n := 2) rfl rfl rfl (by kernel_rfl) rfl rfl) ?_
  refine AL_b (x_call0 rfl rfl rfl (valueOkI_c _) rfl rfl) (fun b17 h17 => ?_)
  refine AL_p (x_move rfl rfl) ?_
  cases b17
  · try simp only [tdy] at h17
    refine AL_o rfl rfl rfl rfl ?_
    refine AL_o rfl rfl rfl rfl ?_
    refine AL_o rfl rfl rfl rfl ?_
    refine AL_o rfl rfl rfl rfl ?_
    refine AL_o rfl rfl rfl rfl ?_
    refine AL_p (x_pickF rfl rfl rfl) ?_
    refine AL_p (x_assign rfl rfl) ?_
    refine AL_nil ?_
    refine AW_ret ?_
    exact ⟨rn [], ⟨⟨⟨_, rfl, vle_bool (by simp [termB, *])⟩, trivial⟩, trivial, trivial, rfl⟩⟩
  try simp only [tdy] at h17
  refine AL_g rfl rfl (x_field (off := 1) (o' := 1) rfl rfl rfl (by kernel_rfl) rfl) ?_
  refine AL_g rfl rfl (x_field (off := 1) (o' := 2) rfl rfl rfl (by kernel_rfl) rfl) ?_
  refine AL_g rfl rfl (x_load1 rfl rfl rfl (by kernel_rfl) rfl) ?_
  refine AL_gb rfl rfl (x_call0 rfl rfl rfl (keptI_c _) rfl rfl) (fun b22 h22 => ?_)
  refine AL_g rfl rfl (x_not rfl rfl) ?_
  refine AL_p (x_pickT rfl rfl rfl) ?_
  refine AL_p (x_assign rfl rfl) ?_
  refine AL_nil ?_
  refine AW_ret ?_
  cases b22
  rotate_left
  · try simp only [tdy] at h22
    exact ⟨rn [], ⟨⟨⟨_, rfl, vle_bool (by simp [termB, *])⟩, trivial⟩, trivial, trivial, rfl⟩⟩
  try simp only [tdy] at h22
  exact ⟨rn [], ⟨⟨⟨_, rfl, vle_bool (by simp [termB, *])⟩, trivial⟩, trivial, trivial, rfl⟩⟩

set_option maxHeartbeats 4000000 in
theorem nameS_c (s : ByteArray) : AC Try.prog 127 [.one (.c (.string s))] [] (.one (.c (.bool (nameB s)))) [] := by
  refine AC_body1 Try.func127 rfl rfl Try.ntmps127 rfl Try.results127 ?_
  refine AW_seq ?_
  refine AW_region ?_
  refine AL_p (x_assign rfl rfl) ?_
  refine AL_nil ?_
  refine AW_seq ?_
  refine AW_region ?_
  refine AL_p (x_move rfl rfl) ?_
  refine AL_b (x_call0 rfl rfl rfl (wordOkS_c _) rfl rfl) (fun b4 h4 => ?_)
  refine AL_p (x_move rfl rfl) ?_
  cases b4
  · try simp only [tdy] at h4
    refine AL_o rfl rfl rfl rfl ?_
    refine AL_o rfl rfl rfl rfl ?_
    refine AL_o rfl rfl rfl rfl ?_
    refine AL_p (x_pickF rfl rfl rfl) ?_
    refine AL_p (x_assign rfl rfl) ?_
    refine AL_nil ?_
    refine AW_ret ?_
    exact ⟨rn [], ⟨⟨⟨_, rfl, vle_bool (by simp [nameB, *])⟩, trivial⟩, trivial, trivial, rfl⟩⟩
  try simp only [tdy] at h4
  refine AL_g rfl rfl (x_move rfl rfl) ?_
  refine AL_gb rfl rfl (x_call0 rfl rfl rfl (keptS_c _) rfl rfl) (fun b7 h7 => ?_)
  refine AL_g rfl rfl (x_not rfl rfl) ?_
  refine AL_p (x_pickT rfl rfl rfl) ?_
  refine AL_p (x_assign rfl rfl) ?_
  refine AL_nil ?_
  refine AW_ret ?_
  cases b7
  rotate_left
  · try simp only [tdy] at h7
    exact ⟨rn [], ⟨⟨⟨_, rfl, vle_bool (by simp [nameB, *])⟩, trivial⟩, trivial, trivial, rfl⟩⟩
  try simp only [tdy] at h7
  exact ⟨rn [], ⟨⟨⟨_, rfl, vle_bool (by simp [nameB, *])⟩, trivial⟩, trivial, trivial, rfl⟩⟩

set_option maxHeartbeats 4000000 in
theorem termS_c (t : Termt) : AC Try.prog 128 [.agg (termC t)] [] (.one (.c (.bool (termB t)))) [] := by
  refine AC_body1 Try.func128 rfl rfl Try.ntmps128 rfl Try.results128 ?_
  refine AW_seq ?_
  refine AW_region ?_
  refine AL_p (x_box 100 rfl rfl rfl rfl rfl rfl rfl) ?_
  refine AL_p (x_assign rfl rfl) ?_
  refine AL_nil ?_
  refine AW_seq ?_
  refine AW_seq ?_
  refine AW_region ?_
  refine AL_p (x_field (off := 0) (o' := 0) rfl rfl rfl (by kernel_rfl) rfl) ?_
  refine AL_p (x_load1 rfl rfl rfl (by kernel_rfl) rfl) ?_
  refine AL_b (x_sneq rfl rfl rfl) (fun b5 h5 => ?_)
  refine AL_nil ?_
  cases b5
  rotate_left
  · try simp only [tdy] at h5
    refine AW_condT rfl ?_
    refine AW_seq ?_
    refine AW_region ?_
    refine AL_p (x_field (off := 0) (o' := 0) rfl rfl rfl (by kernel_rfl) rfl) ?_
    refine AL_p (x_load1 rfl rfl rfl (by kernel_rfl) rfl) ?_
    refine AL_b (x_call0 rfl rfl rfl (varOkS_c _) rfl rfl) (fun b8 h8 => ?_)
    refine AL_p (x_move rfl rfl) ?_
    cases b8
    · try simp only [tdy] at h8
      refine AL_o rfl rfl rfl rfl ?_
      refine AL_o rfl rfl rfl rfl ?_
      refine AL_o rfl rfl rfl rfl ?_
      refine AL_o rfl rfl rfl rfl ?_
      refine AL_p (x_pickF rfl rfl rfl) ?_
      refine AL_p (x_assign rfl rfl) ?_
      refine AL_nil ?_
      refine AW_ret ?_
      exact ⟨rn [], ⟨⟨⟨_, rfl, vle_bool (by simp [termB, *])⟩, trivial⟩, trivial, trivial, rfl⟩⟩
    try simp only [tdy] at h8
    refine AL_g rfl rfl (x_field (off := 1) (o' := 1) rfl rfl rfl (by kernel_rfl) rfl) ?_
    refine AL_g rfl rfl (x_loadN (n := 2) rfl rfl rfl (by kernel_rfl) rfl rfl) ?_
    refine AL_g rfl rfl (x_build (zs := [.int .i64 0, .string ⟨#[]⟩]) (places := [(0, 1), (1, 1)]) rfl (by kernel_rfl) rfl rfl rfl rfl rfl) ?_
    refine AL_gb rfl rfl (x_veql (a := t.val) (b := noVal) rfl rfl rfl) (fun b13 h13 => ?_)
    refine AL_p (x_pickT rfl rfl rfl) ?_
    refine AL_p (x_assign rfl rfl) ?_
    refine AL_nil ?_
    refine AW_ret ?_
    cases b13
    rotate_left
    · try simp only [tdy] at h13
      exact ⟨rn [], ⟨⟨⟨_, rfl, vle_bool (by simp [termB, *])⟩, trivial⟩, trivial, trivial, rfl⟩⟩
    try simp only [tdy] at h13
    exact ⟨rn [], ⟨⟨⟨_, rfl, vle_bool (by simp [termB, *])⟩, trivial⟩, trivial, trivial, rfl⟩⟩
  try simp only [tdy] at h5
  refine AW_condF rfl ?_
  refine AW_skip ?_
  refine AW_seq ?_
  refine AW_region ?_
  refine AL_p (x_field (off := 1) (o' := 1) rfl rfl rfl (by kernel_rfl) rfl) ?_
  refine AL_p (x_loadN (n := 2) rfl rfl rfl (by kernel_rfl) rfl rfl) ?_
  refine AL_b (x_call0 rfl rfl rfl (valueOkS_c _) rfl rfl) (fun b17 h17 => ?_)
  refine AL_p (x_move rfl rfl) ?_
  cases b17
  · try simp only [tdy] at h17
    refine AL_o rfl rfl rfl rfl ?_
    refine AL_o rfl rfl rfl rfl ?_
    refine AL_o rfl rfl rfl rfl ?_
    refine AL_o rfl rfl rfl rfl ?_
    refine AL_o rfl rfl rfl rfl ?_
    refine AL_p (x_pickF rfl rfl rfl) ?_
    refine AL_p (x_assign rfl rfl) ?_
    refine AL_nil ?_
    refine AW_ret ?_
    exact ⟨rn [], ⟨⟨⟨_, rfl, vle_bool (by simp [termB, *])⟩, trivial⟩, trivial, trivial, rfl⟩⟩
  try simp only [tdy] at h17
  refine AL_g rfl rfl (x_field (off := 1) (o' := 1) rfl rfl rfl (by kernel_rfl) rfl) ?_
  refine AL_g rfl rfl (x_field (off := 1) (o' := 2) rfl rfl rfl (by kernel_rfl) rfl) ?_
  refine AL_g rfl rfl (x_load1 rfl rfl rfl (by kernel_rfl) rfl) ?_
  refine AL_gb rfl rfl (x_call0 rfl rfl rfl (keptS_c _) rfl rfl) (fun b22 h22 => ?_)
  refine AL_g rfl rfl (x_not rfl rfl) ?_
  refine AL_p (x_pickT rfl rfl rfl) ?_
  refine AL_p (x_assign rfl rfl) ?_
  refine AL_nil ?_
  refine AW_ret ?_
  cases b22
  rotate_left
  · try simp only [tdy] at h22
    exact ⟨rn [], ⟨⟨⟨_, rfl, vle_bool (by simp [termB, *])⟩, trivial⟩, trivial, trivial, rfl⟩⟩
  try simp only [tdy] at h22
  exact ⟨rn [], ⟨⟨⟨_, rfl, vle_bool (by simp [termB, *])⟩, trivial⟩, trivial, trivial, rfl⟩⟩

set_option maxHeartbeats 4000000 in
theorem notTerm_c (t : Termt) : AC Try.prog 131 [.agg (termC t)] [] (.one (.c (.bool (!termB t)))) [] := by
  refine AC_body1 Try.func131 rfl rfl Try.ntmps131 rfl Try.results131 ?_
  refine AW_seq ?_
  refine AW_region ?_
  refine AL_p (x_box 100 rfl rfl rfl rfl rfl rfl rfl) ?_
  refine AL_p (x_assign rfl rfl) ?_
  refine AL_nil ?_
  refine AW_seq ?_
  refine AW_region ?_
  refine AL_p (x_loadN (n := 3) rfl rfl rfl (by kernel_rfl) rfl rfl) ?_
  refine AL_b (x_call0 rfl rfl rfl (termI_c t) rfl rfl) (fun b4 h4 => ?_)
  refine AL_p (x_not rfl rfl) ?_
  refine AL_p (x_assign rfl rfl) ?_
  refine AL_nil ?_
  refine AW_ret ?_
  cases b4
  rotate_left
  · try simp only [tdy] at h4
    exact ⟨rn [], ⟨⟨⟨_, rfl, vle_bool (by simp [*])⟩, trivial⟩, trivial, trivial, rfl⟩⟩
  try simp only [tdy] at h4
  exact ⟨rn [], ⟨⟨⟨_, rfl, vle_bool (by simp [*])⟩, trivial⟩, trivial, trivial, rfl⟩⟩

set_option maxHeartbeats 4000000 in
theorem idxTerm_c (l : List Termt) : AC Try.prog 152 [.one (.sl termE l), .one (.clo 131 [])] [] (.one (.c (.int .i64 (badIdx termB l)))) [] := by
  refine AC_body1 Try.func152 rfl rfl Try.ntmps152 rfl Try.results152 ?_
  refine AW_slmax 0 rfl (fun hm0 => ?_)
  refine AW_seq ?_
  refine AW_region ?_
  refine AL_p (x_assign rfl rfl) ?_
  refine AL_nil ?_
  refine AW_seq ?_
  refine AW_seq ?_
  refine AW_region ?_
  refine AL_p (x_move rfl rfl) ?_
  refine AL_p (x_len (E := 70) (n := 3) rfl rfl (by kernel_rfl)) ?_
  refine AL_p (x_move rfl rfl) ?_
  refine AL_nil ?_
  refine AW_block ?_
  refine AW_loop2 (ι := {q : Nat // q ≤ l.length ∧ EachTo termB l q}) (fun p => [(8, .one (.c (.int .i64 ((p.1) : Int))))]) (fun p => []) [0, 1, 7] [] (fun p => l.length - (p.1)) ⟨0, ⟨by omega, .zero⟩⟩ (rn []) ?_ ?_
  exact ⟨by (repeat refine ⟨⟨_, rfl, by first | exact VLe.rf | exact vle_int (by dsimp only; omega)⟩, ?_⟩); exact trivial, by (repeat refine ⟨⟨_, rfl, by first | exact BLe.rf | exact BLe.box AllC.rf | exact BLe.arr (by exact rfl)⟩, ?_⟩); exact trivial, by repeat (first | exact trivial | refine ⟨⟨rfl, by first | (left; intro h; cases h) | (right; rfl), by first | exact (fun _ h => ⟨_, h⟩) | exact (fun _ _ => ⟨_, rfl⟩) | (intro _ h; cases h)⟩, ?_⟩), rfl⟩
  rintro ⟨k, hinv⟩
  dsimp only
  have hk := hinv.1
  have hA := hinv.2
  refine AW_seq ?_
  refine AW_region ?_
  refine AL_b (x_lss rfl rfl rfl) (fun b9 h9 => ?_)
  refine AL_nil ?_
  refine AW_seq ?_
  cases b9
  · try simp only [tdy] at h9
    refine AW_condF rfl ?_
    refine AW_exit (BQ_hit ?_)
    refine AW_seq ?_
    refine AW_region ?_
    refine AL_p (x_assign rfl rfl) ?_
    refine AL_nil ?_
    refine AW_ret ?_
    exact ⟨rn [], ⟨⟨⟨_, rfl, vle_int (by first | exact (badIdx_at hA (by omega) (by simpa using h16)).symm | exact (badIdx_all hA (by omega)).symm)⟩, trivial⟩, trivial, trivial, rfl⟩⟩
  try simp only [tdy] at h9
  refine AW_condT rfl ?_
  refine AW_skip ?_
  refine AW_seq ?_
  refine AW_block ?_
  refine AW_seq ?_
  refine AW_region ?_
  refine AL_p (x_move rfl rfl) ?_
  refine AL_p (x_assign rfl rfl) ?_
  refine AL_nil ?_
  refine AW_seq ?_
  refine AW_region ?_
  refine AL_p (x_move rfl rfl) ?_
  refine AL_p (x_move rfl rfl) ?_
  refine AL_p (x_move rfl rfl) ?_
  refine AL_p (x_index (E := 70) (n := 3) rfl rfl rfl (by kernel_rfl) rfl (k := k) (by omega) (by omega)) ?_
  refine AL_p (x_eloadW (n := 3) rfl rfl (by kernel_rfl) rfl) ?_
  refine AL_bc (x_call (ks := []) (L := []) (L' := []) rfl rfl rfl (notTerm_c (l[k]'(by omega))) rfl AllV.rf (caught_of rfl) rfl rfl rfl (by repeat (first | exact trivial | refine ⟨rfl, ?_⟩)) rfl) (fun b16 h16 => ?_)
  refine AL_nil ?_
  cases b16
  rotate_left
  · try simp only [tdy] at h16
    refine AW_condT rfl ?_
    refine AW_seq ?_
    refine AW_region ?_
    refine AL_p (x_move rfl rfl) ?_
    refine AL_p (x_assign rfl rfl) ?_
    refine AL_nil ?_
    refine AW_ret (BQ_ret (BQ_ret ?_))
    exact ⟨rn [], ⟨⟨⟨_, rfl, vle_int (by first | exact (badIdx_at hA (by omega) (by simpa using h16)).symm | exact (badIdx_all hA (by omega)).symm)⟩, trivial⟩, trivial, trivial, rfl⟩⟩
  try simp only [tdy] at h16
  refine AW_condF rfl ?_
  refine AW_skip ?_
  refine AW_region ?_
  refine AL_p (x_add rfl rfl rfl (IntWalk.i64_in _ (by omega))) ?_
  refine AL_p (x_move rfl rfl) ?_
  refine AL_nil ?_
  refine ⟨⟨k + 1, ⟨by omega, hA.succ (by omega) (by simpa using h16)⟩⟩, rn [], ?_, by dsimp only; omega⟩
  exact ⟨by (repeat refine ⟨⟨_, rfl, by first | exact VLe.rf | exact vle_int (by dsimp only; omega)⟩, ?_⟩); exact trivial, by (repeat refine ⟨⟨_, rfl, by first | exact BLe.rf | exact BLe.box AllC.rf | exact BLe.arr (by exact rfl)⟩, ?_⟩); exact trivial, by repeat (first | exact trivial | refine ⟨⟨rfl, by first | (left; intro h; cases h) | (right; rfl), by first | exact (fun _ h => ⟨_, h⟩) | exact (fun _ _ => ⟨_, rfl⟩) | (intro _ h; cases h)⟩, ?_⟩), rfl⟩

set_option maxHeartbeats 4000000 in
theorem anyTerm_c (l : List Termt) : AC Try.prog 130 [.one (.sl termE l), .one (.clo 131 [])] [] (.one (.c (.bool (!l.all termB)))) [] := by
  refine AC_body1 Try.func130 rfl rfl Try.ntmps130 rfl Try.results130 ?_
  refine AW_seq ?_
  refine AW_region ?_
  refine AL_p (x_assign rfl rfl) ?_
  refine AL_nil ?_
  refine AW_seq ?_
  refine AW_region ?_
  refine AL_p (x_move rfl rfl) ?_
  refine AL_p (x_move rfl rfl) ?_
  refine AL_p (x_call (ks := []) (L := []) (L' := []) rfl rfl rfl (idxTerm_c l) rfl AllV.rf (caught_of rfl) rfl rfl rfl (by repeat (first | exact trivial | refine ⟨rfl, ?_⟩)) rfl) ?_
  refine AL_b (x_geq rfl rfl rfl) (fun b8 h8 => ?_)
  refine AL_p (x_assign rfl rfl) ?_
  refine AL_nil ?_
  refine AW_ret ?_
  cases b8
  rotate_left
  · try simp only [tdy] at h8
    exact ⟨rn [], ⟨⟨⟨_, rfl, vle_bool (by first | (rw [← badIdx_neg]; simp [*]; done) | (rw [← badIdx_neg]; first | rfl | (symm; rw [decide_eq_true_eq]; omega) | (symm; rw [decide_eq_false_iff_not]; omega)))⟩, trivial⟩, trivial, trivial, rfl⟩⟩
  try simp only [tdy] at h8
  exact ⟨rn [], ⟨⟨⟨_, rfl, vle_bool (by first | (rw [← badIdx_neg]; simp [*]; done) | (rw [← badIdx_neg]; first | rfl | (symm; rw [decide_eq_true_eq]; omega) | (symm; rw [decide_eq_false_iff_not]; omega)))⟩, trivial⟩, trivial, trivial, rfl⟩⟩

set_option maxHeartbeats 4000000 in
theorem atomI_c (a : Atomt) : AC Try.prog 89 [.agg (atomC a)] [] (.one (.c (.bool (atomB a)))) [] := by
  refine AC_body1 Try.func89 rfl rfl Try.ntmps89 rfl Try.results89 ?_
  refine AW_aggmax 0 1 rfl rfl (fun hm0_1 => ?_)
  refine AW_seq ?_
  refine AW_region ?_
  refine AL_p (x_box 100 rfl rfl rfl rfl rfl rfl rfl) ?_
  refine AL_p (x_assign rfl rfl) ?_
  refine AL_nil ?_
  refine AW_seq ?_
  refine AW_region ?_
  refine AL_p (x_field (off := 0) (o' := 0) rfl rfl rfl (by kernel_rfl) rfl) ?_
  refine AL_p (x_load1 rfl rfl rfl (by kernel_rfl) rfl) ?_
  refine AL_b (x_call0 rfl rfl rfl (nameI_c _) rfl rfl) (fun b5 h5 => ?_)
  refine AL_p (x_move rfl rfl) ?_
  cases b5
  · try simp only [tdy] at h5
    refine AL_o rfl rfl rfl rfl ?_
    refine AL_o rfl rfl rfl rfl ?_
    refine AL_o rfl rfl rfl rfl ?_
    refine AL_o rfl rfl rfl rfl ?_
    refine AL_p (x_pickF rfl rfl rfl) ?_
    refine AL_p (x_move rfl rfl) ?_
    refine AL_o rfl rfl rfl rfl ?_
    refine AL_o rfl rfl rfl rfl ?_
    refine AL_o rfl rfl rfl rfl ?_
    refine AL_o rfl rfl rfl rfl ?_
    refine AL_p (x_pickF rfl rfl rfl) ?_
    refine AL_p (x_assign rfl rfl) ?_
    refine AL_nil ?_
    refine AW_ret ?_
    exact ⟨rn [], ⟨⟨⟨_, rfl, vle_bool (by grind [atomB])⟩, trivial⟩, trivial, trivial, rfl⟩⟩
  try simp only [tdy] at h5
  refine AL_g rfl rfl (x_field (off := 1) (o' := 1) rfl rfl rfl (by kernel_rfl) rfl) ?_
  refine AL_g rfl rfl (x_load1 rfl rfl rfl (by kernel_rfl) rfl) ?_
  refine AL_g rfl rfl (x_len (E := 70) (n := 3) rfl rfl (by kernel_rfl)) ?_
  refine AL_gb rfl rfl (x_leq rfl rfl rfl) (fun b10 h10 => ?_)
  refine AL_p (x_pickT rfl rfl rfl) ?_
  refine AL_p (x_move rfl rfl) ?_
  cases b10
  · try simp only [tdy] at h10
    refine AL_o rfl rfl rfl rfl ?_
    refine AL_o rfl rfl rfl rfl ?_
    refine AL_o rfl rfl rfl rfl ?_
    refine AL_o rfl rfl rfl rfl ?_
    refine AL_p (x_pickF rfl rfl rfl) ?_
    refine AL_p (x_assign rfl rfl) ?_
    refine AL_nil ?_
    refine AW_ret ?_
    exact ⟨rn [], ⟨⟨⟨_, rfl, vle_bool (by grind [atomB])⟩, trivial⟩, trivial, trivial, rfl⟩⟩
  try simp only [tdy] at h10
  refine AL_g rfl rfl (x_field (off := 1) (o' := 1) rfl rfl rfl (by kernel_rfl) rfl) ?_
  refine AL_g rfl rfl (x_load1 rfl rfl rfl (by kernel_rfl) rfl) ?_
  refine AL_gbc rfl rfl (x_call (ks := []) (L := []) (L' := []) rfl rfl rfl (anyTerm_c a.args) rfl AllV.rf (caught_of rfl) rfl rfl rfl (by repeat (first | exact trivial | refine ⟨rfl, ?_⟩)) rfl) (fun b15 h15 => ?_)
  refine AL_g rfl rfl (x_not rfl rfl) ?_
  refine AL_p (x_pickT rfl rfl rfl) ?_
  refine AL_p (x_assign rfl rfl) ?_
  refine AL_nil ?_
  refine AW_ret ?_
  cases b15
  rotate_left
  · try simp only [tdy] at h15
    exact ⟨rn [], ⟨⟨⟨_, rfl, vle_bool (by grind [atomB])⟩, trivial⟩, trivial, trivial, rfl⟩⟩
  try simp only [tdy] at h15
  exact ⟨rn [], ⟨⟨⟨_, rfl, vle_bool (by grind [atomB])⟩, trivial⟩, trivial, trivial, rfl⟩⟩

set_option maxHeartbeats 4000000 in
theorem atomS_c (a : Atomt) : AC Try.prog 84 [.agg (atomC a)] [] (.one (.c (.bool (atomB a)))) [] := by
  refine AC_body1 Try.func84 rfl rfl Try.ntmps84 rfl Try.results84 ?_
  refine AW_aggmax 0 1 rfl rfl (fun hm0_1 => ?_)
  refine AW_seq ?_
  refine AW_region ?_
  refine AL_p (x_box 100 rfl rfl rfl rfl rfl rfl rfl) ?_
  refine AL_p (x_assign rfl rfl) ?_
  refine AL_nil ?_
  refine AW_seq ?_
  refine AW_seq ?_
  refine AW_region ?_
  refine AL_p (x_field (off := 0) (o' := 0) rfl rfl rfl (by kernel_rfl) rfl) ?_
  refine AL_p (x_load1 rfl rfl rfl (by kernel_rfl) rfl) ?_
  refine AL_b (x_call0 rfl rfl rfl (nameS_c _) rfl rfl) (fun b7 h7 => ?_)
  refine AL_p (x_not rfl rfl) ?_
  refine AL_p (x_move rfl rfl) ?_
  cases b7
  · try simp only [tdy] at h7
    refine AL_o rfl rfl rfl rfl ?_
    refine AL_o rfl rfl rfl rfl ?_
    refine AL_o rfl rfl rfl rfl ?_
    refine AL_o rfl rfl rfl rfl ?_
    refine AL_p (x_pickT rfl rfl rfl) ?_
    refine AL_nil ?_
    refine AW_condT rfl ?_
    refine AW_seq ?_
    refine AW_region ?_
    refine AL_p (x_assign rfl rfl) ?_
    refine AL_nil ?_
    refine AW_ret ?_
    exact ⟨rn [], ⟨⟨⟨_, rfl, vle_bool (by grind [atomB])⟩, trivial⟩, trivial, trivial, rfl⟩⟩
  try simp only [tdy] at h7
  refine AL_g rfl rfl (x_field (off := 1) (o' := 1) rfl rfl rfl (by kernel_rfl) rfl) ?_
  refine AL_g rfl rfl (x_load1 rfl rfl rfl (by kernel_rfl) rfl) ?_
  refine AL_g rfl rfl (x_len (E := 70) (n := 3) rfl rfl (by kernel_rfl)) ?_
  refine AL_gb rfl rfl (x_gtr rfl rfl rfl) (fun b13 h13 => ?_)
  refine AL_p (x_pickF rfl rfl rfl) ?_
  refine AL_nil ?_
  cases b13
  rotate_left
  · try simp only [tdy] at h13
    refine AW_condT rfl ?_
    refine AW_seq ?_
    refine AW_region ?_
    refine AL_p (x_assign rfl rfl) ?_
    refine AL_nil ?_
    refine AW_ret ?_
    exact ⟨rn [], ⟨⟨⟨_, rfl, vle_bool (by grind [atomB])⟩, trivial⟩, trivial, trivial, rfl⟩⟩
  try simp only [tdy] at h13
  refine AW_condF rfl ?_
  refine AW_skip ?_
  refine AW_seq ?_
  refine AW_seq ?_
  refine AW_region ?_
  refine AL_p (x_field (off := 1) (o' := 1) rfl rfl rfl (by kernel_rfl) rfl) ?_
  refine AL_p (x_load1 rfl rfl rfl (by kernel_rfl) rfl) ?_
  refine AL_p (x_len (E := 70) (n := 3) rfl rfl (by kernel_rfl)) ?_
  refine AL_p (x_move rfl rfl) ?_
  refine AL_nil ?_
  refine AW_block ?_
  refine AW_loop2 (ι := {q : Nat // q ≤ a.args.length ∧ EachTo termB a.args q}) (fun p => [(18, .one (.c (.int .i64 ((p.1) : Int))))]) (fun p => []) [16, 17] [100] (fun p => a.args.length - (p.1)) ⟨0, ⟨by omega, .zero⟩⟩ (rn []) ?_ ?_
  exact ⟨by (repeat refine ⟨⟨_, rfl, by first | exact VLe.rf | exact vle_int (by dsimp only; omega)⟩, ?_⟩); exact trivial, by (repeat refine ⟨⟨_, rfl, by first | exact BLe.rf | exact BLe.box AllC.rf | exact BLe.arr (by exact rfl)⟩, ?_⟩); exact trivial, by repeat (first | exact trivial | refine ⟨⟨rfl, by first | (left; intro h; cases h) | (right; rfl), by first | exact (fun _ h => ⟨_, h⟩) | exact (fun _ _ => ⟨_, rfl⟩) | (intro _ h; cases h)⟩, ?_⟩), rfl⟩
  rintro ⟨k, hinv⟩
  dsimp only
  have hk := hinv.1
  have hA := hinv.2
  refine AW_seq ?_
  refine AW_region ?_
  refine AL_b (x_lss rfl rfl rfl) (fun b19 h19 => ?_)
  refine AL_nil ?_
  refine AW_seq ?_
  cases b19
  · try simp only [tdy] at h19
    have hall := hA.all (by omega)
    refine AW_condF rfl ?_
    refine AW_exit (BQ_hit ?_)
    refine AW_seq ?_
    refine AW_region ?_
    refine AL_p (x_assign rfl rfl) ?_
    refine AL_nil ?_
    refine AW_ret ?_
    exact ⟨rn [], ⟨⟨⟨_, rfl, vle_bool (by grind [atomB])⟩, trivial⟩, trivial, trivial, rfl⟩⟩
  try simp only [tdy] at h19
  refine AW_condT rfl ?_
  refine AW_skip ?_
  refine AW_seq ?_
  refine AW_block ?_
  refine AW_seq ?_
  refine AW_region ?_
  refine AL_p (x_index (E := 70) (n := 3) rfl rfl rfl (by kernel_rfl) rfl (k := k) (by omega) (by omega)) ?_
  refine AL_p (x_eloadW (n := 3) rfl rfl (by kernel_rfl) rfl) ?_
  refine AL_p (x_alloc (z := .agg #[.string ⟨#[]⟩, .int .i64 0, .string ⟨#[]⟩]) 101 rfl (by kernel_rfl) rfl rfl rfl rfl) ?_
  refine AL_p (x_store (n := 3) rfl rfl rfl rfl (by kernel_rfl) rfl rfl rfl) ?_
  refine AL_nil ?_
  refine AW_seq ?_
  refine AW_region ?_
  refine AL_p (x_loadN (n := 3) rfl rfl rfl (by kernel_rfl) rfl rfl) ?_
  refine AL_b (x_call0 rfl rfl rfl (termS_c _) rfl rfl) (fun b23 h23 => ?_)
  refine AL_p (x_not rfl rfl) ?_
  refine AL_nil ?_
  cases b23
  rotate_left
  · try simp only [tdy] at h23
    refine AW_condF rfl ?_
    refine AW_skip ?_
    refine AW_region ?_
    refine AL_p (x_add rfl rfl rfl (IntWalk.i64_in _ (by omega))) ?_
    refine AL_p (x_move rfl rfl) ?_
    refine AL_nil ?_
    refine ⟨⟨k + 1, ⟨by omega, hA.succ (by omega) h23⟩⟩, rn [], ?_, by dsimp only; omega⟩
    exact ⟨by (repeat refine ⟨⟨_, rfl, by first | exact VLe.rf | exact vle_int (by dsimp only; omega)⟩, ?_⟩); exact trivial, by (repeat refine ⟨⟨_, rfl, by first | exact BLe.rf | exact BLe.box AllC.rf | exact BLe.arr (by exact rfl)⟩, ?_⟩); exact trivial, by repeat (first | exact trivial | refine ⟨⟨rfl, by first | (left; intro h; cases h) | (right; rfl), by first | exact (fun _ h => ⟨_, h⟩) | exact (fun _ _ => ⟨_, rfl⟩) | (intro _ h; cases h)⟩, ?_⟩), rfl⟩
  try simp only [tdy] at h23
  have hall := EachTo.bad (by omega) h23
  refine AW_condT rfl ?_
  refine AW_seq ?_
  refine AW_region ?_
  refine AL_p (x_assign rfl rfl) ?_
  refine AL_nil ?_
  refine AW_ret (BQ_ret (BQ_ret ?_))
  exact ⟨rn [], ⟨⟨⟨_, rfl, vle_bool (by grind [atomB])⟩, trivial⟩, trivial, trivial, rfl⟩⟩

set_option maxHeartbeats 4000000 in
theorem litI_c (l : Litt) : AC Try.prog 92 [.agg (litC l)] [] (.one (.c (.bool (litB l)))) [] := by
  refine AC_body1 Try.func92 rfl rfl Try.ntmps92 rfl Try.results92 ?_
  refine AW_aggmax 0 2 rfl rfl (fun hm0_2 => ?_)
  refine AW_seq ?_
  refine AW_region ?_
  refine AL_p (x_box 100 rfl rfl rfl rfl rfl rfl rfl) ?_
  refine AL_p (x_assign rfl rfl) ?_
  refine AL_nil ?_
  refine AW_seq ?_
  refine AW_seq ?_
  refine AW_region ?_
  refine AL_p (x_field (off := 0) (o' := 0) rfl rfl rfl (by kernel_rfl) rfl) ?_
  refine AL_p (x_load1 rfl rfl rfl (by kernel_rfl) rfl) ?_
  refine AL_nil ?_
  refine AW_block ?_
  refine AW_seq ?_
  refine AW_seq ?_
  refine AW_region ?_
  refine AL_b (x_eql rfl rfl rfl) (fun b6 h6 => ?_)
  refine AL_p (x_assign rfl rfl) ?_
  refine AL_nil ?_
  cases b6
  rotate_left
  · try simp only [tdy] at h6
    refine AW_condT rfl ?_
    refine AW_skip ?_
    refine AW_condT rfl ?_
    refine AW_seq ?_
    refine AW_region ?_
    refine AL_p (x_field (off := 1) (o' := 1) rfl rfl rfl (by kernel_rfl) rfl) ?_
    refine AL_p (x_loadN (n := 2) rfl rfl rfl (by kernel_rfl) rfl rfl) ?_
    refine AL_b (x_call0 rfl rfl rfl (atomI_c l.atom) rfl rfl) (fun b10 h10 => ?_)
    refine AL_p (x_move rfl rfl) ?_
    cases b10
    · try simp only [tdy] at h10
      refine AL_o rfl rfl rfl rfl ?_
      refine AL_o rfl rfl rfl rfl ?_
      refine AL_o rfl rfl rfl rfl ?_
      refine AL_p (x_pickF rfl rfl rfl) ?_
      refine AL_p (x_move rfl rfl) ?_
      refine AL_o rfl rfl rfl rfl ?_
      refine AL_o rfl rfl rfl rfl ?_
      refine AL_o rfl rfl rfl rfl ?_
      refine AL_o rfl rfl rfl rfl ?_
      refine AL_p (x_pickF rfl rfl rfl) ?_
      refine AL_p (x_move rfl rfl) ?_
      refine AL_o rfl rfl rfl rfl ?_
      refine AL_o rfl rfl rfl rfl ?_
      refine AL_o rfl rfl rfl rfl ?_
      refine AL_o rfl rfl rfl rfl ?_
      refine AL_p (x_pickF rfl rfl rfl) ?_
      refine AL_p (x_assign rfl rfl) ?_
      refine AL_nil ?_
      refine AW_ret (BQ_ret ?_)
      exact ⟨rn [], ⟨⟨⟨_, rfl, vle_bool (by grind [litB])⟩, trivial⟩, trivial, trivial, rfl⟩⟩
    try simp only [tdy] at h10
    refine AL_g rfl rfl (x_field (off := 3) (o' := 3) rfl rfl rfl (by kernel_rfl) rfl) ?_
    refine AL_g rfl rfl (x_load1 rfl rfl rfl (by kernel_rfl) rfl) ?_
    refine AL_gb rfl rfl (x_eql rfl rfl rfl) (fun b14 h14 => ?_)
    refine AL_p (x_pickT rfl rfl rfl) ?_
    refine AL_p (x_move rfl rfl) ?_
    cases b14
    · try simp only [tdy] at h14
      refine AL_o rfl rfl rfl rfl ?_
      refine AL_o rfl rfl rfl rfl ?_
      refine AL_o rfl rfl rfl rfl ?_
      refine AL_o rfl rfl rfl rfl ?_
      refine AL_p (x_pickF rfl rfl rfl) ?_
      refine AL_p (x_move rfl rfl) ?_
      refine AL_o rfl rfl rfl rfl ?_
      refine AL_o rfl rfl rfl rfl ?_
      refine AL_o rfl rfl rfl rfl ?_
      refine AL_o rfl rfl rfl rfl ?_
      refine AL_p (x_pickF rfl rfl rfl) ?_
      refine AL_p (x_assign rfl rfl) ?_
      refine AL_nil ?_
      refine AW_ret (BQ_ret ?_)
      exact ⟨rn [], ⟨⟨⟨_, rfl, vle_bool (by grind [litB])⟩, trivial⟩, trivial, trivial, rfl⟩⟩
    try simp only [tdy] at h14
    refine AL_g rfl rfl (x_field (off := 4) (o' := 4) rfl rfl rfl (by kernel_rfl) rfl) ?_
    refine AL_g rfl rfl (x_loadN (n := 3) rfl rfl rfl (by kernel_rfl) rfl rfl) ?_
    refine AL_g rfl rfl (x_build (zs := [.string ⟨#[]⟩, .int .i64 0, .string ⟨#[]⟩]) (places := [(0, 1), (1, 2)]) rfl (by kernel_rfl) rfl rfl rfl rfl rfl) ?_
    refine AL_gb rfl rfl (x_teql (a := l.a) (b := noTerm) rfl rfl rfl) (fun b20 h20 => ?_)
    refine AL_p (x_pickT rfl rfl rfl) ?_
    refine AL_p (x_move rfl rfl) ?_
    cases b20
    · try simp only [tdy] at h20
      refine AL_o rfl rfl rfl rfl ?_
      refine AL_o rfl rfl rfl rfl ?_
      refine AL_o rfl rfl rfl rfl ?_
      refine AL_o rfl rfl rfl rfl ?_
      refine AL_p (x_pickF rfl rfl rfl) ?_
      refine AL_p (x_assign rfl rfl) ?_
      refine AL_nil ?_
      refine AW_ret (BQ_ret ?_)
      exact ⟨rn [], ⟨⟨⟨_, rfl, vle_bool (by grind [litB])⟩, trivial⟩, trivial, trivial, rfl⟩⟩
    try simp only [tdy] at h20
    refine AL_g rfl rfl (x_field (off := 7) (o' := 7) rfl rfl rfl (by kernel_rfl) rfl) ?_
    refine AL_g rfl rfl (x_loadN (n := 3) rfl rfl rfl (by kernel_rfl) rfl rfl) ?_
    refine AL_g rfl rfl (x_build (zs := [.string ⟨#[]⟩, .int .i64 0, .string ⟨#[]⟩]) (places := [(0, 1), (1, 2)]) rfl (by kernel_rfl) rfl rfl rfl rfl rfl) ?_
    refine AL_gb rfl rfl (x_teql (a := l.b) (b := noTerm) rfl rfl rfl) (fun b26 h26 => ?_)
    refine AL_p (x_pickT rfl rfl rfl) ?_
    refine AL_p (x_assign rfl rfl) ?_
    refine AL_nil ?_
    refine AW_ret (BQ_ret ?_)
    cases b26
    rotate_left
    · try simp only [tdy] at h26
      exact ⟨rn [], ⟨⟨⟨_, rfl, vle_bool (by grind [litB])⟩, trivial⟩, trivial, trivial, rfl⟩⟩
    try simp only [tdy] at h26
    exact ⟨rn [], ⟨⟨⟨_, rfl, vle_bool (by grind [litB])⟩, trivial⟩, trivial, trivial, rfl⟩⟩
  try simp only [tdy] at h6
  refine AW_condF rfl ?_
  refine AW_region ?_
  refine AL_b (x_eql rfl rfl rfl) (fun b7 h7 => ?_)
  refine AL_p (x_assign rfl rfl) ?_
  refine AL_nil ?_
  cases b7
  rotate_left
  · try simp only [tdy] at h7
    refine AW_condT rfl ?_
    refine AW_seq ?_
    refine AW_region ?_
    refine AL_p (x_field (off := 1) (o' := 1) rfl rfl rfl (by kernel_rfl) rfl) ?_
    refine AL_p (x_loadN (n := 2) rfl rfl rfl (by kernel_rfl) rfl rfl) ?_
    refine AL_b (x_call0 rfl rfl rfl (atomI_c l.atom) rfl rfl) (fun b10 h10 => ?_)
    refine AL_p (x_move rfl rfl) ?_
    cases b10
    · try simp only [tdy] at h10
      refine AL_o rfl rfl rfl rfl ?_
      refine AL_o rfl rfl rfl rfl ?_
      refine AL_o rfl rfl rfl rfl ?_
      refine AL_p (x_pickF rfl rfl rfl) ?_
      refine AL_p (x_move rfl rfl) ?_
      refine AL_o rfl rfl rfl rfl ?_
      refine AL_o rfl rfl rfl rfl ?_
      refine AL_o rfl rfl rfl rfl ?_
      refine AL_o rfl rfl rfl rfl ?_
      refine AL_p (x_pickF rfl rfl rfl) ?_
      refine AL_p (x_move rfl rfl) ?_
      refine AL_o rfl rfl rfl rfl ?_
      refine AL_o rfl rfl rfl rfl ?_
      refine AL_o rfl rfl rfl rfl ?_
      refine AL_o rfl rfl rfl rfl ?_
      refine AL_p (x_pickF rfl rfl rfl) ?_
      refine AL_p (x_assign rfl rfl) ?_
      refine AL_nil ?_
      refine AW_ret (BQ_ret ?_)
      exact ⟨rn [], ⟨⟨⟨_, rfl, vle_bool (by grind [litB])⟩, trivial⟩, trivial, trivial, rfl⟩⟩
    try simp only [tdy] at h10
    refine AL_g rfl rfl (x_field (off := 3) (o' := 3) rfl rfl rfl (by kernel_rfl) rfl) ?_
    refine AL_g rfl rfl (x_load1 rfl rfl rfl (by kernel_rfl) rfl) ?_
    refine AL_gb rfl rfl (x_eql rfl rfl rfl) (fun b14 h14 => ?_)
    refine AL_p (x_pickT rfl rfl rfl) ?_
    refine AL_p (x_move rfl rfl) ?_
    cases b14
    · try simp only [tdy] at h14
      refine AL_o rfl rfl rfl rfl ?_
      refine AL_o rfl rfl rfl rfl ?_
      refine AL_o rfl rfl rfl rfl ?_
      refine AL_o rfl rfl rfl rfl ?_
      refine AL_p (x_pickF rfl rfl rfl) ?_
      refine AL_p (x_move rfl rfl) ?_
      refine AL_o rfl rfl rfl rfl ?_
      refine AL_o rfl rfl rfl rfl ?_
      refine AL_o rfl rfl rfl rfl ?_
      refine AL_o rfl rfl rfl rfl ?_
      refine AL_p (x_pickF rfl rfl rfl) ?_
      refine AL_p (x_assign rfl rfl) ?_
      refine AL_nil ?_
      refine AW_ret (BQ_ret ?_)
      exact ⟨rn [], ⟨⟨⟨_, rfl, vle_bool (by grind [litB])⟩, trivial⟩, trivial, trivial, rfl⟩⟩
    try simp only [tdy] at h14
    refine AL_g rfl rfl (x_field (off := 4) (o' := 4) rfl rfl rfl (by kernel_rfl) rfl) ?_
    refine AL_g rfl rfl (x_loadN (n := 3) rfl rfl rfl (by kernel_rfl) rfl rfl) ?_
    refine AL_g rfl rfl (x_build (zs := [.string ⟨#[]⟩, .int .i64 0, .string ⟨#[]⟩]) (places := [(0, 1), (1, 2)]) rfl (by kernel_rfl) rfl rfl rfl rfl rfl) ?_
    refine AL_gb rfl rfl (x_teql (a := l.a) (b := noTerm) rfl rfl rfl) (fun b20 h20 => ?_)
    refine AL_p (x_pickT rfl rfl rfl) ?_
    refine AL_p (x_move rfl rfl) ?_
    cases b20
    · try simp only [tdy] at h20
      refine AL_o rfl rfl rfl rfl ?_
      refine AL_o rfl rfl rfl rfl ?_
      refine AL_o rfl rfl rfl rfl ?_
      refine AL_o rfl rfl rfl rfl ?_
      refine AL_p (x_pickF rfl rfl rfl) ?_
      refine AL_p (x_assign rfl rfl) ?_
      refine AL_nil ?_
      refine AW_ret (BQ_ret ?_)
      exact ⟨rn [], ⟨⟨⟨_, rfl, vle_bool (by grind [litB])⟩, trivial⟩, trivial, trivial, rfl⟩⟩
    try simp only [tdy] at h20
    refine AL_g rfl rfl (x_field (off := 7) (o' := 7) rfl rfl rfl (by kernel_rfl) rfl) ?_
    refine AL_g rfl rfl (x_loadN (n := 3) rfl rfl rfl (by kernel_rfl) rfl rfl) ?_
    refine AL_g rfl rfl (x_build (zs := [.string ⟨#[]⟩, .int .i64 0, .string ⟨#[]⟩]) (places := [(0, 1), (1, 2)]) rfl (by kernel_rfl) rfl rfl rfl rfl rfl) ?_
    refine AL_gb rfl rfl (x_teql (a := l.b) (b := noTerm) rfl rfl rfl) (fun b26 h26 => ?_)
    refine AL_p (x_pickT rfl rfl rfl) ?_
    refine AL_p (x_assign rfl rfl) ?_
    refine AL_nil ?_
    refine AW_ret (BQ_ret ?_)
    cases b26
    rotate_left
    · try simp only [tdy] at h26
      exact ⟨rn [], ⟨⟨⟨_, rfl, vle_bool (by grind [litB])⟩, trivial⟩, trivial, trivial, rfl⟩⟩
    try simp only [tdy] at h26
    exact ⟨rn [], ⟨⟨⟨_, rfl, vle_bool (by grind [litB])⟩, trivial⟩, trivial, trivial, rfl⟩⟩
  try simp only [tdy] at h7
  refine AW_condF rfl ?_
  refine AW_seq ?_
  refine AW_region ?_
  refine AL_b (x_eql rfl rfl rfl) (fun b29 h29 => ?_)
  refine AL_p (x_assign rfl rfl) ?_
  refine AL_nil ?_
  cases b29
  · try simp only [tdy] at h29
    refine AW_condF rfl ?_
    refine AW_skip ?_
    refine AW_seq ?_
    refine AW_region ?_
    refine AL_p (x_assign rfl rfl) ?_
    refine AL_nil ?_
    refine AW_ret ?_
    exact ⟨rn [], ⟨⟨⟨_, rfl, vle_bool (by grind [litB])⟩, trivial⟩, trivial, trivial, rfl⟩⟩
  try simp only [tdy] at h29
  refine AW_condT rfl ?_
  refine AW_seq ?_
  refine AW_region ?_
  refine AL_p (x_field (off := 3) (o' := 3) rfl rfl rfl (by kernel_rfl) rfl) ?_
  refine AL_p (x_load1 rfl rfl rfl (by kernel_rfl) rfl) ?_
  refine AL_b (x_geq rfl rfl rfl) (fun b32 h32 => ?_)
  refine AL_p (x_move rfl rfl) ?_
  cases b32
  · try simp only [tdy] at h32
    refine AL_o rfl rfl rfl rfl ?_
    refine AL_o rfl rfl rfl rfl ?_
    refine AL_o rfl rfl rfl rfl ?_
    refine AL_p (x_pickF rfl rfl rfl) ?_
    refine AL_p (x_move rfl rfl) ?_
    refine AL_o rfl rfl rfl rfl ?_
    refine AL_o rfl rfl rfl rfl ?_
    refine AL_o rfl rfl rfl rfl ?_
    refine AL_o rfl rfl rfl rfl ?_
    refine AL_p (x_pickF rfl rfl rfl) ?_
    refine AL_p (x_move rfl rfl) ?_
    refine AL_o rfl rfl rfl rfl ?_
    refine AL_o rfl rfl rfl rfl ?_
    refine AL_o rfl rfl rfl rfl ?_
    refine AL_o rfl rfl rfl rfl ?_
    refine AL_o rfl rfl rfl rfl ?_
    refine AL_p (x_pickF rfl rfl rfl) ?_
    refine AL_p (x_move rfl rfl) ?_
    refine AL_o rfl rfl rfl rfl ?_
    refine AL_o rfl rfl rfl rfl ?_
    refine AL_o rfl rfl rfl rfl ?_
    refine AL_p (x_pickF rfl rfl rfl) ?_
    refine AL_p (x_move rfl rfl) ?_
    refine AL_o rfl rfl rfl rfl ?_
    refine AL_o rfl rfl rfl rfl ?_
    refine AL_o rfl rfl rfl rfl ?_
    refine AL_p (x_pickF rfl rfl rfl) ?_
    refine AL_p (x_assign rfl rfl) ?_
    refine AL_nil ?_
    refine AW_ret (BQ_ret ?_)
    exact ⟨rn [], ⟨⟨⟨_, rfl, vle_bool (by grind [litB])⟩, trivial⟩, trivial, trivial, rfl⟩⟩
  try simp only [tdy] at h32
  refine AL_g rfl rfl (x_field (off := 3) (o' := 3) rfl rfl rfl (by kernel_rfl) rfl) ?_
  refine AL_g rfl rfl (x_load1 rfl rfl rfl (by kernel_rfl) rfl) ?_
  refine AL_gb rfl rfl (x_leq rfl rfl rfl) (fun b36 h36 => ?_)
  refine AL_p (x_pickT rfl rfl rfl) ?_
  refine AL_p (x_move rfl rfl) ?_
  cases b36
  · try simp only [tdy] at h36
    refine AL_o rfl rfl rfl rfl ?_
    refine AL_o rfl rfl rfl rfl ?_
    refine AL_o rfl rfl rfl rfl ?_
    refine AL_o rfl rfl rfl rfl ?_
    refine AL_p (x_pickF rfl rfl rfl) ?_
    refine AL_p (x_move rfl rfl) ?_
    refine AL_o rfl rfl rfl rfl ?_
    refine AL_o rfl rfl rfl rfl ?_
    refine AL_o rfl rfl rfl rfl ?_
    refine AL_o rfl rfl rfl rfl ?_
    refine AL_o rfl rfl rfl rfl ?_
    refine AL_p (x_pickF rfl rfl rfl) ?_
    refine AL_p (x_move rfl rfl) ?_
    refine AL_o rfl rfl rfl rfl ?_
    refine AL_o rfl rfl rfl rfl ?_
    refine AL_o rfl rfl rfl rfl ?_
    refine AL_p (x_pickF rfl rfl rfl) ?_
    refine AL_p (x_move rfl rfl) ?_
    refine AL_o rfl rfl rfl rfl ?_
    refine AL_o rfl rfl rfl rfl ?_
    refine AL_o rfl rfl rfl rfl ?_
    refine AL_p (x_pickF rfl rfl rfl) ?_
    refine AL_p (x_assign rfl rfl) ?_
    refine AL_nil ?_
    refine AW_ret (BQ_ret ?_)
    exact ⟨rn [], ⟨⟨⟨_, rfl, vle_bool (by grind [litB])⟩, trivial⟩, trivial, trivial, rfl⟩⟩
  try simp only [tdy] at h36
  refine AL_g rfl rfl (x_field (off := 1) (o' := 1) rfl rfl rfl (by kernel_rfl) rfl) ?_
  refine AL_g rfl rfl (x_field (off := 0) (o' := 1) rfl rfl rfl (by kernel_rfl) rfl) ?_
  refine AL_g rfl rfl (x_load1 rfl rfl rfl (by kernel_rfl) rfl) ?_
  refine AL_gb rfl rfl (x_seql rfl rfl rfl) (fun b42 h42 => ?_)
  refine AL_p (x_pickT rfl rfl rfl) ?_
  refine AL_p (x_move rfl rfl) ?_
  cases b42
  · try simp only [tdy] at h42
    refine AL_o rfl rfl rfl rfl ?_
    refine AL_o rfl rfl rfl rfl ?_
    refine AL_o rfl rfl rfl rfl ?_
    refine AL_o rfl rfl rfl rfl ?_
    refine AL_o rfl rfl rfl rfl ?_
    refine AL_p (x_pickF rfl rfl rfl) ?_
    refine AL_p (x_move rfl rfl) ?_
    refine AL_o rfl rfl rfl rfl ?_
    refine AL_o rfl rfl rfl rfl ?_
    refine AL_o rfl rfl rfl rfl ?_
    refine AL_p (x_pickF rfl rfl rfl) ?_
    refine AL_p (x_move rfl rfl) ?_
    refine AL_o rfl rfl rfl rfl ?_
    refine AL_o rfl rfl rfl rfl ?_
    refine AL_o rfl rfl rfl rfl ?_
    refine AL_p (x_pickF rfl rfl rfl) ?_
    refine AL_p (x_assign rfl rfl) ?_
    refine AL_nil ?_
    refine AW_ret (BQ_ret ?_)
    exact ⟨rn [], ⟨⟨⟨_, rfl, vle_bool (by grind [litB])⟩, trivial⟩, trivial, trivial, rfl⟩⟩
  try simp only [tdy] at h42
  refine AL_g rfl rfl (x_field (off := 1) (o' := 1) rfl rfl rfl (by kernel_rfl) rfl) ?_
  refine AL_g rfl rfl (x_field (off := 1) (o' := 2) rfl rfl rfl (by kernel_rfl) rfl) ?_
  refine AL_g rfl rfl (x_load1 rfl rfl rfl (by kernel_rfl) rfl) ?_
  refine AL_g rfl rfl (x_len (E := 70) (n := 3) rfl rfl (by kernel_rfl)) ?_
  refine AL_gb rfl rfl (x_eql rfl rfl rfl) (fun b49 h49 => ?_)
  refine AL_p (x_pickT rfl rfl rfl) ?_
  refine AL_p (x_move rfl rfl) ?_
  cases b49
  · try simp only [tdy] at h49
    refine AL_o rfl rfl rfl rfl ?_
    refine AL_o rfl rfl rfl rfl ?_
    refine AL_o rfl rfl rfl rfl ?_
    refine AL_p (x_pickF rfl rfl rfl) ?_
    refine AL_p (x_move rfl rfl) ?_
    refine AL_o rfl rfl rfl rfl ?_
    refine AL_o rfl rfl rfl rfl ?_
    refine AL_o rfl rfl rfl rfl ?_
    refine AL_p (x_pickF rfl rfl rfl) ?_
    refine AL_p (x_assign rfl rfl) ?_
    refine AL_nil ?_
    refine AW_ret (BQ_ret ?_)
    exact ⟨rn [], ⟨⟨⟨_, rfl, vle_bool (by grind [litB])⟩, trivial⟩, trivial, trivial, rfl⟩⟩
  try simp only [tdy] at h49
  refine AL_g rfl rfl (x_field (off := 4) (o' := 4) rfl rfl rfl (by kernel_rfl) rfl) ?_
  refine AL_g rfl rfl (x_loadN (n := 3) rfl rfl rfl (by kernel_rfl) rfl rfl) ?_
  refine AL_gb rfl rfl (x_call0 rfl rfl rfl (termI_c l.a) rfl rfl) (fun b54 h54 => ?_)
  refine AL_p (x_pickT rfl rfl rfl) ?_
  refine AL_p (x_move rfl rfl) ?_
  cases b54
  · try simp only [tdy] at h54
    refine AL_o rfl rfl rfl rfl ?_
    refine AL_o rfl rfl rfl rfl ?_
    refine AL_o rfl rfl rfl rfl ?_
    refine AL_p (x_pickF rfl rfl rfl) ?_
    refine AL_p (x_assign rfl rfl) ?_
    refine AL_nil ?_
    refine AW_ret (BQ_ret ?_)
    exact ⟨rn [], ⟨⟨⟨_, rfl, vle_bool (by grind [litB])⟩, trivial⟩, trivial, trivial, rfl⟩⟩
  try simp only [tdy] at h54
  refine AL_g rfl rfl (x_field (off := 7) (o' := 7) rfl rfl rfl (by kernel_rfl) rfl) ?_
  refine AL_g rfl rfl (x_loadN (n := 3) rfl rfl rfl (by kernel_rfl) rfl rfl) ?_
  refine AL_gb rfl rfl (x_call0 rfl rfl rfl (termI_c l.b) rfl rfl) (fun b59 h59 => ?_)
  refine AL_p (x_pickT rfl rfl rfl) ?_
  refine AL_p (x_assign rfl rfl) ?_
  refine AL_nil ?_
  refine AW_ret (BQ_ret ?_)
  cases b59
  rotate_left
  · try simp only [tdy] at h59
    exact ⟨rn [], ⟨⟨⟨_, rfl, vle_bool (by grind [litB])⟩, trivial⟩, trivial, trivial, rfl⟩⟩
  try simp only [tdy] at h59
  exact ⟨rn [], ⟨⟨⟨_, rfl, vle_bool (by grind [litB])⟩, trivial⟩, trivial, trivial, rfl⟩⟩

set_option maxHeartbeats 4000000 in
theorem litS_c (l : Litt) : AC Try.prog 85 [.agg (litC l)] [] (.one (.c (.bool (litB l)))) [] := by
  refine AC_body1 Try.func85 rfl rfl Try.ntmps85 rfl Try.results85 ?_
  refine AW_aggmax 0 2 rfl rfl (fun hm0_2 => ?_)
  refine AW_seq ?_
  refine AW_region ?_
  refine AL_p (x_box 100 rfl rfl rfl rfl rfl rfl rfl) ?_
  refine AL_p (x_assign rfl rfl) ?_
  refine AL_nil ?_
  refine AW_seq ?_
  refine AW_seq ?_
  refine AW_region ?_
  refine AL_p (x_field (off := 0) (o' := 0) rfl rfl rfl (by kernel_rfl) rfl) ?_
  refine AL_p (x_load1 rfl rfl rfl (by kernel_rfl) rfl) ?_
  refine AL_b (x_eql rfl rfl rfl) (fun b6 h6 => ?_)
  refine AL_nil ?_
  cases b6
  rotate_left
  · try simp only [tdy] at h6
    refine AW_condT rfl ?_
    refine AW_seq ?_
    refine AW_region ?_
    refine AL_p (x_field (off := 3) (o' := 3) rfl rfl rfl (by kernel_rfl) rfl) ?_
    refine AL_p (x_load1 rfl rfl rfl (by kernel_rfl) rfl) ?_
    refine AL_b (x_geq rfl rfl rfl) (fun b9 h9 => ?_)
    refine AL_p (x_move rfl rfl) ?_
    cases b9
    · try simp only [tdy] at h9
      refine AL_o rfl rfl rfl rfl ?_
      refine AL_o rfl rfl rfl rfl ?_
      refine AL_o rfl rfl rfl rfl ?_
      refine AL_p (x_pickF rfl rfl rfl) ?_
      refine AL_p (x_move rfl rfl) ?_
      refine AL_o rfl rfl rfl rfl ?_
      refine AL_o rfl rfl rfl rfl ?_
      refine AL_o rfl rfl rfl rfl ?_
      refine AL_o rfl rfl rfl rfl ?_
      refine AL_p (x_pickF rfl rfl rfl) ?_
      refine AL_p (x_move rfl rfl) ?_
      refine AL_o rfl rfl rfl rfl ?_
      refine AL_o rfl rfl rfl rfl ?_
      refine AL_o rfl rfl rfl rfl ?_
      refine AL_o rfl rfl rfl rfl ?_
      refine AL_o rfl rfl rfl rfl ?_
      refine AL_p (x_pickF rfl rfl rfl) ?_
      refine AL_p (x_move rfl rfl) ?_
      refine AL_o rfl rfl rfl rfl ?_
      refine AL_o rfl rfl rfl rfl ?_
      refine AL_o rfl rfl rfl rfl ?_
      refine AL_p (x_pickF rfl rfl rfl) ?_
      refine AL_p (x_move rfl rfl) ?_
      refine AL_o rfl rfl rfl rfl ?_
      refine AL_o rfl rfl rfl rfl ?_
      refine AL_o rfl rfl rfl rfl ?_
      refine AL_p (x_pickF rfl rfl rfl) ?_
      refine AL_p (x_assign rfl rfl) ?_
      refine AL_nil ?_
      refine AW_ret ?_
      exact ⟨rn [], ⟨⟨⟨_, rfl, vle_bool (by grind [litB])⟩, trivial⟩, trivial, trivial, rfl⟩⟩
    try simp only [tdy] at h9
    refine AL_g rfl rfl (x_field (off := 3) (o' := 3) rfl rfl rfl (by kernel_rfl) rfl) ?_
    refine AL_g rfl rfl (x_load1 rfl rfl rfl (by kernel_rfl) rfl) ?_
    refine AL_gb rfl rfl (x_leq rfl rfl rfl) (fun b13 h13 => ?_)
    refine AL_p (x_pickT rfl rfl rfl) ?_
    refine AL_p (x_move rfl rfl) ?_
    cases b13
    · try simp only [tdy] at h13
      refine AL_o rfl rfl rfl rfl ?_
      refine AL_o rfl rfl rfl rfl ?_
      refine AL_o rfl rfl rfl rfl ?_
      refine AL_o rfl rfl rfl rfl ?_
      refine AL_p (x_pickF rfl rfl rfl) ?_
      refine AL_p (x_move rfl rfl) ?_
      refine AL_o rfl rfl rfl rfl ?_
      refine AL_o rfl rfl rfl rfl ?_
      refine AL_o rfl rfl rfl rfl ?_
      refine AL_o rfl rfl rfl rfl ?_
      refine AL_o rfl rfl rfl rfl ?_
      refine AL_p (x_pickF rfl rfl rfl) ?_
      refine AL_p (x_move rfl rfl) ?_
      refine AL_o rfl rfl rfl rfl ?_
      refine AL_o rfl rfl rfl rfl ?_
      refine AL_o rfl rfl rfl rfl ?_
      refine AL_p (x_pickF rfl rfl rfl) ?_
      refine AL_p (x_move rfl rfl) ?_
      refine AL_o rfl rfl rfl rfl ?_
      refine AL_o rfl rfl rfl rfl ?_
      refine AL_o rfl rfl rfl rfl ?_
      refine AL_p (x_pickF rfl rfl rfl) ?_
      refine AL_p (x_assign rfl rfl) ?_
      refine AL_nil ?_
      refine AW_ret ?_
      exact ⟨rn [], ⟨⟨⟨_, rfl, vle_bool (by grind [litB])⟩, trivial⟩, trivial, trivial, rfl⟩⟩
    try simp only [tdy] at h13
    refine AL_g rfl rfl (x_field (off := 1) (o' := 1) rfl rfl rfl (by kernel_rfl) rfl) ?_
    refine AL_g rfl rfl (x_field (off := 0) (o' := 1) rfl rfl rfl (by kernel_rfl) rfl) ?_
    refine AL_g rfl rfl (x_load1 rfl rfl rfl (by kernel_rfl) rfl) ?_
    refine AL_gb rfl rfl (x_seql rfl rfl rfl) (fun b19 h19 => ?_)
    refine AL_p (x_pickT rfl rfl rfl) ?_
    refine AL_p (x_move rfl rfl) ?_
    cases b19
    · try simp only [tdy] at h19
      refine AL_o rfl rfl rfl rfl ?_
      refine AL_o rfl rfl rfl rfl ?_
      refine AL_o rfl rfl rfl rfl ?_
      refine AL_o rfl rfl rfl rfl ?_
      refine AL_o rfl rfl rfl rfl ?_
      refine AL_p (x_pickF rfl rfl rfl) ?_
      refine AL_p (x_move rfl rfl) ?_
      refine AL_o rfl rfl rfl rfl ?_
      refine AL_o rfl rfl rfl rfl ?_
      refine AL_o rfl rfl rfl rfl ?_
      refine AL_p (x_pickF rfl rfl rfl) ?_
      refine AL_p (x_move rfl rfl) ?_
      refine AL_o rfl rfl rfl rfl ?_
      refine AL_o rfl rfl rfl rfl ?_
      refine AL_o rfl rfl rfl rfl ?_
      refine AL_p (x_pickF rfl rfl rfl) ?_
      refine AL_p (x_assign rfl rfl) ?_
      refine AL_nil ?_
      refine AW_ret ?_
      exact ⟨rn [], ⟨⟨⟨_, rfl, vle_bool (by grind [litB])⟩, trivial⟩, trivial, trivial, rfl⟩⟩
    try simp only [tdy] at h19
    refine AL_g rfl rfl (x_field (off := 1) (o' := 1) rfl rfl rfl (by kernel_rfl) rfl) ?_
    refine AL_g rfl rfl (x_field (off := 1) (o' := 2) rfl rfl rfl (by kernel_rfl) rfl) ?_
    refine AL_g rfl rfl (x_load1 rfl rfl rfl (by kernel_rfl) rfl) ?_
    refine AL_g rfl rfl (x_len (E := 70) (n := 3) rfl rfl (by kernel_rfl)) ?_
    refine AL_gb rfl rfl (x_eql rfl rfl rfl) (fun b26 h26 => ?_)
    refine AL_p (x_pickT rfl rfl rfl) ?_
    refine AL_p (x_move rfl rfl) ?_
    cases b26
    · try simp only [tdy] at h26
      refine AL_o rfl rfl rfl rfl ?_
      refine AL_o rfl rfl rfl rfl ?_
      refine AL_o rfl rfl rfl rfl ?_
      refine AL_p (x_pickF rfl rfl rfl) ?_
      refine AL_p (x_move rfl rfl) ?_
      refine AL_o rfl rfl rfl rfl ?_
      refine AL_o rfl rfl rfl rfl ?_
      refine AL_o rfl rfl rfl rfl ?_
      refine AL_p (x_pickF rfl rfl rfl) ?_
      refine AL_p (x_assign rfl rfl) ?_
      refine AL_nil ?_
      refine AW_ret ?_
      exact ⟨rn [], ⟨⟨⟨_, rfl, vle_bool (by grind [litB])⟩, trivial⟩, trivial, trivial, rfl⟩⟩
    try simp only [tdy] at h26
    refine AL_g rfl rfl (x_field (off := 4) (o' := 4) rfl rfl rfl (by kernel_rfl) rfl) ?_
    refine AL_g rfl rfl (x_loadN (n := 3) rfl rfl rfl (by kernel_rfl) rfl rfl) ?_
    refine AL_gb rfl rfl (x_call0 rfl rfl rfl (termS_c l.a) rfl rfl) (fun b31 h31 => ?_)
    refine AL_p (x_pickT rfl rfl rfl) ?_
    refine AL_p (x_move rfl rfl) ?_
    cases b31
    · try simp only [tdy] at h31
      refine AL_o rfl rfl rfl rfl ?_
      refine AL_o rfl rfl rfl rfl ?_
      refine AL_o rfl rfl rfl rfl ?_
      refine AL_p (x_pickF rfl rfl rfl) ?_
      refine AL_p (x_assign rfl rfl) ?_
      refine AL_nil ?_
      refine AW_ret ?_
      exact ⟨rn [], ⟨⟨⟨_, rfl, vle_bool (by grind [litB])⟩, trivial⟩, trivial, trivial, rfl⟩⟩
    try simp only [tdy] at h31
    refine AL_g rfl rfl (x_field (off := 7) (o' := 7) rfl rfl rfl (by kernel_rfl) rfl) ?_
    refine AL_g rfl rfl (x_loadN (n := 3) rfl rfl rfl (by kernel_rfl) rfl rfl) ?_
    refine AL_gb rfl rfl (x_call0 rfl rfl rfl (termS_c l.b) rfl rfl) (fun b36 h36 => ?_)
    refine AL_p (x_pickT rfl rfl rfl) ?_
    refine AL_p (x_assign rfl rfl) ?_
    refine AL_nil ?_
    refine AW_ret ?_
    cases b36
    rotate_left
    · try simp only [tdy] at h36
      exact ⟨rn [], ⟨⟨⟨_, rfl, vle_bool (by grind [litB])⟩, trivial⟩, trivial, trivial, rfl⟩⟩
    try simp only [tdy] at h36
    exact ⟨rn [], ⟨⟨⟨_, rfl, vle_bool (by grind [litB])⟩, trivial⟩, trivial, trivial, rfl⟩⟩
  try simp only [tdy] at h6
  refine AW_condF rfl ?_
  refine AW_skip ?_
  refine AW_seq ?_
  refine AW_region ?_
  refine AL_p (x_build (zs := [.string ⟨#[]⟩, .int .i64 0, .string ⟨#[]⟩]) (places := [(0, 1), (1, 2)]) rfl (by kernel_rfl) rfl rfl rfl rfl rfl) ?_
  refine AL_p (x_alloc (z := .agg #[.string ⟨#[]⟩, .int .i64 0, .string ⟨#[]⟩]) 101 rfl (by kernel_rfl) rfl rfl rfl rfl) ?_
  refine AL_p (x_store (n := 3) rfl rfl rfl rfl (by kernel_rfl) rfl rfl rfl) ?_
  refine AL_nil ?_
  refine AW_seq ?_
  refine AW_region ?_
  refine AL_p (x_field (off := 0) (o' := 0) rfl rfl rfl (by kernel_rfl) rfl) ?_
  refine AL_p (x_load1 rfl rfl rfl (by kernel_rfl) rfl) ?_
  refine AL_b (x_eql rfl rfl rfl) (fun b41 h41 => ?_)
  refine AL_p (x_move rfl rfl) ?_
  cases b41
  rotate_left
  · try simp only [tdy] at h41
    refine AL_o rfl rfl rfl rfl ?_
    refine AL_o rfl rfl rfl rfl ?_
    refine AL_o rfl rfl rfl rfl ?_
    refine AL_p (x_pickT rfl rfl rfl) ?_
    refine AL_p (x_move rfl rfl) ?_
    refine AL_g rfl rfl (x_field (off := 1) (o' := 1) rfl rfl rfl (by kernel_rfl) rfl) ?_
    refine AL_g rfl rfl (x_loadN (n := 2) rfl rfl rfl (by kernel_rfl) rfl rfl) ?_
    refine AL_gb rfl rfl (x_call0 rfl rfl rfl (atomS_c l.atom) rfl rfl) (fun b50 h50 => ?_)
    refine AL_p (x_pickT rfl rfl rfl) ?_
    refine AL_p (x_move rfl rfl) ?_
    cases b50
    · try simp only [tdy] at h50
      refine AL_o rfl rfl rfl rfl ?_
      refine AL_o rfl rfl rfl rfl ?_
      refine AL_o rfl rfl rfl rfl ?_
      refine AL_p (x_pickF rfl rfl rfl) ?_
      refine AL_p (x_move rfl rfl) ?_
      refine AL_o rfl rfl rfl rfl ?_
      refine AL_o rfl rfl rfl rfl ?_
      refine AL_o rfl rfl rfl rfl ?_
      refine AL_o rfl rfl rfl rfl ?_
      refine AL_p (x_pickF rfl rfl rfl) ?_
      refine AL_p (x_move rfl rfl) ?_
      refine AL_o rfl rfl rfl rfl ?_
      refine AL_o rfl rfl rfl rfl ?_
      refine AL_o rfl rfl rfl rfl ?_
      refine AL_o rfl rfl rfl rfl ?_
      refine AL_p (x_pickF rfl rfl rfl) ?_
      refine AL_p (x_assign rfl rfl) ?_
      refine AL_nil ?_
      refine AW_ret ?_
      exact ⟨rn [], ⟨⟨⟨_, rfl, vle_bool (by grind [litB])⟩, trivial⟩, trivial, trivial, rfl⟩⟩
    try simp only [tdy] at h50
    refine AL_g rfl rfl (x_field (off := 3) (o' := 3) rfl rfl rfl (by kernel_rfl) rfl) ?_
    refine AL_g rfl rfl (x_load1 rfl rfl rfl (by kernel_rfl) rfl) ?_
    refine AL_gb rfl rfl (x_eql rfl rfl rfl) (fun b55 h55 => ?_)
    refine AL_p (x_pickT rfl rfl rfl) ?_
    refine AL_p (x_move rfl rfl) ?_
    cases b55
    · try simp only [tdy] at h55
      refine AL_o rfl rfl rfl rfl ?_
      refine AL_o rfl rfl rfl rfl ?_
      refine AL_o rfl rfl rfl rfl ?_
      refine AL_o rfl rfl rfl rfl ?_
      refine AL_p (x_pickF rfl rfl rfl) ?_
      refine AL_p (x_move rfl rfl) ?_
      refine AL_o rfl rfl rfl rfl ?_
      refine AL_o rfl rfl rfl rfl ?_
      refine AL_o rfl rfl rfl rfl ?_
      refine AL_o rfl rfl rfl rfl ?_
      refine AL_p (x_pickF rfl rfl rfl) ?_
      refine AL_p (x_assign rfl rfl) ?_
      refine AL_nil ?_
      refine AW_ret ?_
      exact ⟨rn [], ⟨⟨⟨_, rfl, vle_bool (by grind [litB])⟩, trivial⟩, trivial, trivial, rfl⟩⟩
    try simp only [tdy] at h55
    refine AL_g rfl rfl (x_field (off := 4) (o' := 4) rfl rfl rfl (by kernel_rfl) rfl) ?_
    refine AL_g rfl rfl (x_loadN (n := 3) rfl rfl rfl (by kernel_rfl) rfl rfl) ?_
    refine AL_g rfl rfl (x_loadN (n := 3) rfl rfl rfl (by kernel_rfl) rfl rfl) ?_
    refine AL_gb rfl rfl (x_teql (a := l.a) (b := noTerm) rfl rfl rfl) (fun b61 h61 => ?_)
    refine AL_p (x_pickT rfl rfl rfl) ?_
    refine AL_p (x_move rfl rfl) ?_
    cases b61
    · try simp only [tdy] at h61
      refine AL_o rfl rfl rfl rfl ?_
      refine AL_o rfl rfl rfl rfl ?_
      refine AL_o rfl rfl rfl rfl ?_
      refine AL_o rfl rfl rfl rfl ?_
      refine AL_p (x_pickF rfl rfl rfl) ?_
      refine AL_p (x_assign rfl rfl) ?_
      refine AL_nil ?_
      refine AW_ret ?_
      exact ⟨rn [], ⟨⟨⟨_, rfl, vle_bool (by grind [litB])⟩, trivial⟩, trivial, trivial, rfl⟩⟩
    try simp only [tdy] at h61
    refine AL_g rfl rfl (x_field (off := 7) (o' := 7) rfl rfl rfl (by kernel_rfl) rfl) ?_
    refine AL_g rfl rfl (x_loadN (n := 3) rfl rfl rfl (by kernel_rfl) rfl rfl) ?_
    refine AL_g rfl rfl (x_loadN (n := 3) rfl rfl rfl (by kernel_rfl) rfl rfl) ?_
    refine AL_gb rfl rfl (x_teql (a := l.b) (b := noTerm) rfl rfl rfl) (fun b67 h67 => ?_)
    refine AL_p (x_pickT rfl rfl rfl) ?_
    refine AL_p (x_assign rfl rfl) ?_
    refine AL_nil ?_
    refine AW_ret ?_
    cases b67
    rotate_left
    · try simp only [tdy] at h67
      exact ⟨rn [], ⟨⟨⟨_, rfl, vle_bool (by grind [litB])⟩, trivial⟩, trivial, trivial, rfl⟩⟩
    try simp only [tdy] at h67
    exact ⟨rn [], ⟨⟨⟨_, rfl, vle_bool (by grind [litB])⟩, trivial⟩, trivial, trivial, rfl⟩⟩
  try simp only [tdy] at h41
  refine AL_g rfl rfl (x_field (off := 0) (o' := 0) rfl rfl rfl (by kernel_rfl) rfl) ?_
  refine AL_g rfl rfl (x_load1 rfl rfl rfl (by kernel_rfl) rfl) ?_
  refine AL_gb rfl rfl (x_eql rfl rfl rfl) (fun b45 h45 => ?_)
  refine AL_p (x_pickF rfl rfl rfl) ?_
  refine AL_p (x_move rfl rfl) ?_
  cases b45
  · try simp only [tdy] at h45
    refine AL_o rfl rfl rfl rfl ?_
    refine AL_o rfl rfl rfl rfl ?_
    refine AL_o rfl rfl rfl rfl ?_
    refine AL_p (x_pickF rfl rfl rfl) ?_
    refine AL_p (x_move rfl rfl) ?_
    refine AL_o rfl rfl rfl rfl ?_
    refine AL_o rfl rfl rfl rfl ?_
    refine AL_o rfl rfl rfl rfl ?_
    refine AL_p (x_pickF rfl rfl rfl) ?_
    refine AL_p (x_move rfl rfl) ?_
    refine AL_o rfl rfl rfl rfl ?_
    refine AL_o rfl rfl rfl rfl ?_
    refine AL_o rfl rfl rfl rfl ?_
    refine AL_o rfl rfl rfl rfl ?_
    refine AL_p (x_pickF rfl rfl rfl) ?_
    refine AL_p (x_move rfl rfl) ?_
    refine AL_o rfl rfl rfl rfl ?_
    refine AL_o rfl rfl rfl rfl ?_
    refine AL_o rfl rfl rfl rfl ?_
    refine AL_o rfl rfl rfl rfl ?_
    refine AL_p (x_pickF rfl rfl rfl) ?_
    refine AL_p (x_assign rfl rfl) ?_
    refine AL_nil ?_
    refine AW_ret ?_
    exact ⟨rn [], ⟨⟨⟨_, rfl, vle_bool (by grind [litB])⟩, trivial⟩, trivial, trivial, rfl⟩⟩
  try simp only [tdy] at h45
  refine AL_g rfl rfl (x_field (off := 1) (o' := 1) rfl rfl rfl (by kernel_rfl) rfl) ?_
  refine AL_g rfl rfl (x_loadN (n := 2) rfl rfl rfl (by kernel_rfl) rfl rfl) ?_
  refine AL_gb rfl rfl (x_call0 rfl rfl rfl (atomS_c l.atom) rfl rfl) (fun b50 h50 => ?_)
  refine AL_p (x_pickT rfl rfl rfl) ?_
  refine AL_p (x_move rfl rfl) ?_
  cases b50
  · try simp only [tdy] at h50
    refine AL_o rfl rfl rfl rfl ?_
    refine AL_o rfl rfl rfl rfl ?_
    refine AL_o rfl rfl rfl rfl ?_
    refine AL_p (x_pickF rfl rfl rfl) ?_
    refine AL_p (x_move rfl rfl) ?_
    refine AL_o rfl rfl rfl rfl ?_
    refine AL_o rfl rfl rfl rfl ?_
    refine AL_o rfl rfl rfl rfl ?_
    refine AL_o rfl rfl rfl rfl ?_
    refine AL_p (x_pickF rfl rfl rfl) ?_
    refine AL_p (x_move rfl rfl) ?_
    refine AL_o rfl rfl rfl rfl ?_
    refine AL_o rfl rfl rfl rfl ?_
    refine AL_o rfl rfl rfl rfl ?_
    refine AL_o rfl rfl rfl rfl ?_
    refine AL_p (x_pickF rfl rfl rfl) ?_
    refine AL_p (x_assign rfl rfl) ?_
    refine AL_nil ?_
    refine AW_ret ?_
    exact ⟨rn [], ⟨⟨⟨_, rfl, vle_bool (by grind [litB])⟩, trivial⟩, trivial, trivial, rfl⟩⟩
  try simp only [tdy] at h50
  refine AL_g rfl rfl (x_field (off := 3) (o' := 3) rfl rfl rfl (by kernel_rfl) rfl) ?_
  refine AL_g rfl rfl (x_load1 rfl rfl rfl (by kernel_rfl) rfl) ?_
  refine AL_gb rfl rfl (x_eql rfl rfl rfl) (fun b55 h55 => ?_)
  refine AL_p (x_pickT rfl rfl rfl) ?_
  refine AL_p (x_move rfl rfl) ?_
  cases b55
  · try simp only [tdy] at h55
    refine AL_o rfl rfl rfl rfl ?_
    refine AL_o rfl rfl rfl rfl ?_
    refine AL_o rfl rfl rfl rfl ?_
    refine AL_o rfl rfl rfl rfl ?_
    refine AL_p (x_pickF rfl rfl rfl) ?_
    refine AL_p (x_move rfl rfl) ?_
    refine AL_o rfl rfl rfl rfl ?_
    refine AL_o rfl rfl rfl rfl ?_
    refine AL_o rfl rfl rfl rfl ?_
    refine AL_o rfl rfl rfl rfl ?_
    refine AL_p (x_pickF rfl rfl rfl) ?_
    refine AL_p (x_assign rfl rfl) ?_
    refine AL_nil ?_
    refine AW_ret ?_
    exact ⟨rn [], ⟨⟨⟨_, rfl, vle_bool (by grind [litB])⟩, trivial⟩, trivial, trivial, rfl⟩⟩
  try simp only [tdy] at h55
  refine AL_g rfl rfl (x_field (off := 4) (o' := 4) rfl rfl rfl (by kernel_rfl) rfl) ?_
  refine AL_g rfl rfl (x_loadN (n := 3) rfl rfl rfl (by kernel_rfl) rfl rfl) ?_
  refine AL_g rfl rfl (x_loadN (n := 3) rfl rfl rfl (by kernel_rfl) rfl rfl) ?_
  refine AL_gb rfl rfl (x_teql (a := l.a) (b := noTerm) rfl rfl rfl) (fun b61 h61 => ?_)
  refine AL_p (x_pickT rfl rfl rfl) ?_
  refine AL_p (x_move rfl rfl) ?_
  cases b61
  · try simp only [tdy] at h61
    refine AL_o rfl rfl rfl rfl ?_
    refine AL_o rfl rfl rfl rfl ?_
    refine AL_o rfl rfl rfl rfl ?_
    refine AL_o rfl rfl rfl rfl ?_
    refine AL_p (x_pickF rfl rfl rfl) ?_
    refine AL_p (x_assign rfl rfl) ?_
    refine AL_nil ?_
    refine AW_ret ?_
    exact ⟨rn [], ⟨⟨⟨_, rfl, vle_bool (by grind [litB])⟩, trivial⟩, trivial, trivial, rfl⟩⟩
  try simp only [tdy] at h61
  refine AL_g rfl rfl (x_field (off := 7) (o' := 7) rfl rfl rfl (by kernel_rfl) rfl) ?_
  refine AL_g rfl rfl (x_loadN (n := 3) rfl rfl rfl (by kernel_rfl) rfl rfl) ?_
  refine AL_g rfl rfl (x_loadN (n := 3) rfl rfl rfl (by kernel_rfl) rfl rfl) ?_
  refine AL_gb rfl rfl (x_teql (a := l.b) (b := noTerm) rfl rfl rfl) (fun b67 h67 => ?_)
  refine AL_p (x_pickT rfl rfl rfl) ?_
  refine AL_p (x_assign rfl rfl) ?_
  refine AL_nil ?_
  refine AW_ret ?_
  cases b67
  rotate_left
  · try simp only [tdy] at h67
    exact ⟨rn [], ⟨⟨⟨_, rfl, vle_bool (by grind [litB])⟩, trivial⟩, trivial, trivial, rfl⟩⟩
  try simp only [tdy] at h67
  exact ⟨rn [], ⟨⟨⟨_, rfl, vle_bool (by grind [litB])⟩, trivial⟩, trivial, trivial, rfl⟩⟩

set_option maxHeartbeats 4000000 in
theorem notLit_c (t : Litt) : AC Try.prog 91 [.agg (litC t)] [] (.one (.c (.bool (!litB t)))) [] := by
  refine AC_body1 Try.func91 rfl rfl Try.ntmps91 rfl Try.results91 ?_
  refine AW_seq ?_
  refine AW_region ?_
  refine AL_p (x_box 100 rfl rfl rfl rfl rfl rfl rfl) ?_
  refine AL_p (x_assign rfl rfl) ?_
  refine AL_nil ?_
  refine AW_seq ?_
  refine AW_region ?_
  refine AL_p (x_loadN (n := 10) rfl rfl rfl (by kernel_rfl) rfl rfl) ?_
  refine AL_b (x_call0 rfl rfl rfl (litI_c t) rfl rfl) (fun b4 h4 => ?_)
  refine AL_p (x_not rfl rfl) ?_
  refine AL_p (x_assign rfl rfl) ?_
  refine AL_nil ?_
  refine AW_ret ?_
  cases b4
  rotate_left
  · try simp only [tdy] at h4
    exact ⟨rn [], ⟨⟨⟨_, rfl, vle_bool (by simp [*])⟩, trivial⟩, trivial, trivial, rfl⟩⟩
  try simp only [tdy] at h4
  exact ⟨rn [], ⟨⟨⟨_, rfl, vle_bool (by simp [*])⟩, trivial⟩, trivial, trivial, rfl⟩⟩

set_option maxHeartbeats 4000000 in
theorem idxLit_c (l : List Litt) : AC Try.prog 133 [.one (.sl litE l), .one (.clo 91 [])] [] (.one (.c (.int .i64 (badIdx litB l)))) [] := by
  refine AC_body1 Try.func133 rfl rfl Try.ntmps133 rfl Try.results133 ?_
  refine AW_slmax 0 rfl (fun hm0 => ?_)
  refine AW_seq ?_
  refine AW_region ?_
  refine AL_p (x_assign rfl rfl) ?_
  refine AL_nil ?_
  refine AW_seq ?_
  refine AW_seq ?_
  refine AW_region ?_
  refine AL_p (x_move rfl rfl) ?_
  refine AL_p (x_len (E := 72) (n := 10) rfl rfl (by kernel_rfl)) ?_
  refine AL_p (x_move rfl rfl) ?_
  refine AL_nil ?_
  refine AW_block ?_
  refine AW_loop2 (ι := {q : Nat // q ≤ l.length ∧ EachTo litB l q}) (fun p => [(8, .one (.c (.int .i64 ((p.1) : Int))))]) (fun p => []) [0, 1, 7] [] (fun p => l.length - (p.1)) ⟨0, ⟨by omega, .zero⟩⟩ (rn []) ?_ ?_
  exact ⟨by (repeat refine ⟨⟨_, rfl, by first | exact VLe.rf | exact vle_int (by dsimp only; omega)⟩, ?_⟩); exact trivial, by (repeat refine ⟨⟨_, rfl, by first | exact BLe.rf | exact BLe.box AllC.rf | exact BLe.arr (by exact rfl)⟩, ?_⟩); exact trivial, by repeat (first | exact trivial | refine ⟨⟨rfl, by first | (left; intro h; cases h) | (right; rfl), by first | exact (fun _ h => ⟨_, h⟩) | exact (fun _ _ => ⟨_, rfl⟩) | (intro _ h; cases h)⟩, ?_⟩), rfl⟩
  rintro ⟨k, hinv⟩
  dsimp only
  have hk := hinv.1
  have hA := hinv.2
  refine AW_seq ?_
  refine AW_region ?_
  refine AL_b (x_lss rfl rfl rfl) (fun b9 h9 => ?_)
  refine AL_nil ?_
  refine AW_seq ?_
  cases b9
  · try simp only [tdy] at h9
    refine AW_condF rfl ?_
    refine AW_exit (BQ_hit ?_)
    refine AW_seq ?_
    refine AW_region ?_
    refine AL_p (x_assign rfl rfl) ?_
    refine AL_nil ?_
    refine AW_ret ?_
    exact ⟨rn [], ⟨⟨⟨_, rfl, vle_int (by first | exact (badIdx_at hA (by omega) (by simpa using h16)).symm | exact (badIdx_all hA (by omega)).symm)⟩, trivial⟩, trivial, trivial, rfl⟩⟩
  try simp only [tdy] at h9
  refine AW_condT rfl ?_
  refine AW_skip ?_
  refine AW_seq ?_
  refine AW_block ?_
  refine AW_seq ?_
  refine AW_region ?_
  refine AL_p (x_move rfl rfl) ?_
  refine AL_p (x_assign rfl rfl) ?_
  refine AL_nil ?_
  refine AW_seq ?_
  refine AW_region ?_
  refine AL_p (x_move rfl rfl) ?_
  refine AL_p (x_move rfl rfl) ?_
  refine AL_p (x_move rfl rfl) ?_
  refine AL_p (x_index (E := 72) (n := 10) rfl rfl rfl (by kernel_rfl) rfl (k := k) (by omega) (by omega)) ?_
  refine AL_p (x_eloadW (n := 10) rfl rfl (by kernel_rfl) rfl) ?_
  refine AL_bc (x_call (ks := []) (L := []) (L' := []) rfl rfl rfl (notLit_c (l[k]'(by omega))) rfl AllV.rf (caught_of rfl) rfl rfl rfl (by repeat (first | exact trivial | refine ⟨rfl, ?_⟩)) rfl) (fun b16 h16 => ?_)
  refine AL_nil ?_
  cases b16
  rotate_left
  · try simp only [tdy] at h16
    refine AW_condT rfl ?_
    refine AW_seq ?_
    refine AW_region ?_
    refine AL_p (x_move rfl rfl) ?_
    refine AL_p (x_assign rfl rfl) ?_
    refine AL_nil ?_
    refine AW_ret (BQ_ret (BQ_ret ?_))
    exact ⟨rn [], ⟨⟨⟨_, rfl, vle_int (by first | exact (badIdx_at hA (by omega) (by simpa using h16)).symm | exact (badIdx_all hA (by omega)).symm)⟩, trivial⟩, trivial, trivial, rfl⟩⟩
  try simp only [tdy] at h16
  refine AW_condF rfl ?_
  refine AW_skip ?_
  refine AW_region ?_
  refine AL_p (x_add rfl rfl rfl (IntWalk.i64_in _ (by omega))) ?_
  refine AL_p (x_move rfl rfl) ?_
  refine AL_nil ?_
  refine ⟨⟨k + 1, ⟨by omega, hA.succ (by omega) (by simpa using h16)⟩⟩, rn [], ?_, by dsimp only; omega⟩
  exact ⟨by (repeat refine ⟨⟨_, rfl, by first | exact VLe.rf | exact vle_int (by dsimp only; omega)⟩, ?_⟩); exact trivial, by (repeat refine ⟨⟨_, rfl, by first | exact BLe.rf | exact BLe.box AllC.rf | exact BLe.arr (by exact rfl)⟩, ?_⟩); exact trivial, by repeat (first | exact trivial | refine ⟨⟨rfl, by first | (left; intro h; cases h) | (right; rfl), by first | exact (fun _ h => ⟨_, h⟩) | exact (fun _ _ => ⟨_, rfl⟩) | (intro _ h; cases h)⟩, ?_⟩), rfl⟩

set_option maxHeartbeats 4000000 in
theorem anyLit_c (l : List Litt) : AC Try.prog 90 [.one (.sl litE l), .one (.clo 91 [])] [] (.one (.c (.bool (!l.all litB)))) [] := by
  refine AC_body1 Try.func90 rfl rfl Try.ntmps90 rfl Try.results90 ?_
  refine AW_seq ?_
  refine AW_region ?_
  refine AL_p (x_assign rfl rfl) ?_
  refine AL_nil ?_
  refine AW_seq ?_
  refine AW_region ?_
  refine AL_p (x_move rfl rfl) ?_
  refine AL_p (x_move rfl rfl) ?_
  refine AL_p (x_call (ks := []) (L := []) (L' := []) rfl rfl rfl (idxLit_c l) rfl AllV.rf (caught_of rfl) rfl rfl rfl (by repeat (first | exact trivial | refine ⟨rfl, ?_⟩)) rfl) ?_
  refine AL_b (x_geq rfl rfl rfl) (fun b8 h8 => ?_)
  refine AL_p (x_assign rfl rfl) ?_
  refine AL_nil ?_
  refine AW_ret ?_
  cases b8
  rotate_left
  · try simp only [tdy] at h8
    exact ⟨rn [], ⟨⟨⟨_, rfl, vle_bool (by first | (rw [← badIdx_neg]; simp [*]; done) | (rw [← badIdx_neg]; first | rfl | (symm; rw [decide_eq_true_eq]; omega) | (symm; rw [decide_eq_false_iff_not]; omega)))⟩, trivial⟩, trivial, trivial, rfl⟩⟩
  try simp only [tdy] at h8
  exact ⟨rn [], ⟨⟨⟨_, rfl, vle_bool (by first | (rw [← badIdx_neg]; simp [*]; done) | (rw [← badIdx_neg]; first | rfl | (symm; rw [decide_eq_true_eq]; omega) | (symm; rw [decide_eq_false_iff_not]; omega)))⟩, trivial⟩, trivial, trivial, rfl⟩⟩

set_option maxHeartbeats 4000000 in
theorem ruleI_c (r : Rulet) : AC Try.prog 35 [.agg (ruleC r)] [] (.one (.c (.bool (ruleB r)))) [] := by
  refine AC_body1 Try.func35 rfl rfl Try.ntmps35 rfl Try.results35 ?_
  refine AW_aggmax 0 3 rfl rfl (fun hm0_3 => ?_)
  refine AW_seq ?_
  refine AW_region ?_
  refine AL_p (x_box 100 rfl rfl rfl rfl rfl rfl rfl) ?_
  refine AL_p (x_assign rfl rfl) ?_
  refine AL_nil ?_
  refine AW_seq ?_
  refine AW_region ?_
  refine AL_p (x_field (off := 0) (o' := 0) rfl rfl rfl (by kernel_rfl) rfl) ?_
  refine AL_p (x_load1 rfl rfl rfl (by kernel_rfl) rfl) ?_
  refine AL_b (x_geq rfl rfl rfl) (fun b5 h5 => ?_)
  refine AL_p (x_move rfl rfl) ?_
  cases b5
  · try simp only [tdy] at h5
    refine AL_o rfl rfl rfl rfl ?_
    refine AL_o rfl rfl rfl rfl ?_
    refine AL_o rfl rfl rfl rfl ?_
    refine AL_p (x_pickF rfl rfl rfl) ?_
    refine AL_p (x_move rfl rfl) ?_
    refine AL_o rfl rfl rfl rfl ?_
    refine AL_o rfl rfl rfl rfl ?_
    refine AL_o rfl rfl rfl rfl ?_
    refine AL_p (x_pickF rfl rfl rfl) ?_
    refine AL_p (x_move rfl rfl) ?_
    refine AL_o rfl rfl rfl rfl ?_
    refine AL_o rfl rfl rfl rfl ?_
    refine AL_o rfl rfl rfl rfl ?_
    refine AL_o rfl rfl rfl rfl ?_
    refine AL_p (x_pickF rfl rfl rfl) ?_
    refine AL_p (x_move rfl rfl) ?_
    refine AL_o rfl rfl rfl rfl ?_
    refine AL_o rfl rfl rfl rfl ?_
    refine AL_o rfl rfl rfl rfl ?_
    refine AL_o rfl rfl rfl rfl ?_
    refine AL_p (x_pickF rfl rfl rfl) ?_
    refine AL_p (x_assign rfl rfl) ?_
    refine AL_nil ?_
    refine AW_ret ?_
    exact ⟨rn [], ⟨⟨⟨_, rfl, vle_bool (by grind [ruleB])⟩, trivial⟩, trivial, trivial, rfl⟩⟩
  try simp only [tdy] at h5
  refine AL_g rfl rfl (x_field (off := 0) (o' := 0) rfl rfl rfl (by kernel_rfl) rfl) ?_
  refine AL_g rfl rfl (x_load1 rfl rfl rfl (by kernel_rfl) rfl) ?_
  refine AL_gb rfl rfl (x_leq rfl rfl rfl) (fun b9 h9 => ?_)
  refine AL_p (x_pickT rfl rfl rfl) ?_
  refine AL_p (x_move rfl rfl) ?_
  cases b9
  · try simp only [tdy] at h9
    refine AL_o rfl rfl rfl rfl ?_
    refine AL_o rfl rfl rfl rfl ?_
    refine AL_o rfl rfl rfl rfl ?_
    refine AL_p (x_pickF rfl rfl rfl) ?_
    refine AL_p (x_move rfl rfl) ?_
    refine AL_o rfl rfl rfl rfl ?_
    refine AL_o rfl rfl rfl rfl ?_
    refine AL_o rfl rfl rfl rfl ?_
    refine AL_o rfl rfl rfl rfl ?_
    refine AL_p (x_pickF rfl rfl rfl) ?_
    refine AL_p (x_move rfl rfl) ?_
    refine AL_o rfl rfl rfl rfl ?_
    refine AL_o rfl rfl rfl rfl ?_
    refine AL_o rfl rfl rfl rfl ?_
    refine AL_o rfl rfl rfl rfl ?_
    refine AL_p (x_pickF rfl rfl rfl) ?_
    refine AL_p (x_assign rfl rfl) ?_
    refine AL_nil ?_
    refine AW_ret ?_
    exact ⟨rn [], ⟨⟨⟨_, rfl, vle_bool (by grind [ruleB])⟩, trivial⟩, trivial, trivial, rfl⟩⟩
  try simp only [tdy] at h9
  refine AL_g rfl rfl (x_field (off := 1) (o' := 1) rfl rfl rfl (by kernel_rfl) rfl) ?_
  refine AL_g rfl rfl (x_loadN (n := 2) rfl rfl rfl (by kernel_rfl) rfl rfl) ?_
  refine AL_gb rfl rfl (x_call0 rfl rfl rfl (atomI_c r.head) rfl rfl) (fun b14 h14 => ?_)
  refine AL_p (x_pickT rfl rfl rfl) ?_
  refine AL_p (x_move rfl rfl) ?_
  cases b14
  · try simp only [tdy] at h14
    refine AL_o rfl rfl rfl rfl ?_
    refine AL_o rfl rfl rfl rfl ?_
    refine AL_o rfl rfl rfl rfl ?_
    refine AL_o rfl rfl rfl rfl ?_
    refine AL_p (x_pickF rfl rfl rfl) ?_
    refine AL_p (x_move rfl rfl) ?_
    refine AL_o rfl rfl rfl rfl ?_
    refine AL_o rfl rfl rfl rfl ?_
    refine AL_o rfl rfl rfl rfl ?_
    refine AL_o rfl rfl rfl rfl ?_
    refine AL_p (x_pickF rfl rfl rfl) ?_
    refine AL_p (x_assign rfl rfl) ?_
    refine AL_nil ?_
    refine AW_ret ?_
    exact ⟨rn [], ⟨⟨⟨_, rfl, vle_bool (by grind [ruleB])⟩, trivial⟩, trivial, trivial, rfl⟩⟩
  try simp only [tdy] at h14
  refine AL_g rfl rfl (x_field (off := 3) (o' := 3) rfl rfl rfl (by kernel_rfl) rfl) ?_
  refine AL_g rfl rfl (x_load1 rfl rfl rfl (by kernel_rfl) rfl) ?_
  refine AL_g rfl rfl (x_len (E := 72) (n := 10) rfl rfl (by kernel_rfl)) ?_
  refine AL_gb rfl rfl (x_leq rfl rfl rfl) (fun b20 h20 => ?_)
  refine AL_p (x_pickT rfl rfl rfl) ?_
  refine AL_p (x_move rfl rfl) ?_
  cases b20
  · try simp only [tdy] at h20
    refine AL_o rfl rfl rfl rfl ?_
    refine AL_o rfl rfl rfl rfl ?_
    refine AL_o rfl rfl rfl rfl ?_
    refine AL_o rfl rfl rfl rfl ?_
    refine AL_p (x_pickF rfl rfl rfl) ?_
    refine AL_p (x_assign rfl rfl) ?_
    refine AL_nil ?_
    refine AW_ret ?_
    exact ⟨rn [], ⟨⟨⟨_, rfl, vle_bool (by grind [ruleB])⟩, trivial⟩, trivial, trivial, rfl⟩⟩
  try simp only [tdy] at h20
  refine AL_g rfl rfl (x_field (off := 3) (o' := 3) rfl rfl rfl (by kernel_rfl) rfl) ?_
  refine AL_g rfl rfl (x_load1 rfl rfl rfl (by kernel_rfl) rfl) ?_
  refine AL_gbc rfl rfl (x_call (ks := []) (L := []) (L' := []) rfl rfl rfl (anyLit_c r.body) rfl AllV.rf (caught_of rfl) rfl rfl rfl (by repeat (first | exact trivial | refine ⟨rfl, ?_⟩)) rfl) (fun b25 h25 => ?_)
  refine AL_g rfl rfl (x_not rfl rfl) ?_
  refine AL_p (x_pickT rfl rfl rfl) ?_
  refine AL_p (x_assign rfl rfl) ?_
  refine AL_nil ?_
  refine AW_ret ?_
  cases b25
  rotate_left
  · try simp only [tdy] at h25
    exact ⟨rn [], ⟨⟨⟨_, rfl, vle_bool (by grind [ruleB])⟩, trivial⟩, trivial, trivial, rfl⟩⟩
  try simp only [tdy] at h25
  exact ⟨rn [], ⟨⟨⟨_, rfl, vle_bool (by grind [ruleB])⟩, trivial⟩, trivial, trivial, rfl⟩⟩

set_option maxHeartbeats 4000000 in
theorem ruleS_c (r : Rulet) : AC Try.prog 31 [.agg (ruleC r)] [] (.one (.c (.bool (ruleB r)))) [] := by
  refine AC_body1 Try.func31 rfl rfl Try.ntmps31 rfl Try.results31 ?_
  refine AW_aggmax 0 3 rfl rfl (fun hm0_3 => ?_)
  refine AW_seq ?_
  refine AW_region ?_
  refine AL_p (x_box 100 rfl rfl rfl rfl rfl rfl rfl) ?_
  refine AL_p (x_assign rfl rfl) ?_
  refine AL_nil ?_
  refine AW_seq ?_
  refine AW_seq ?_
  refine AW_region ?_
  refine AL_p (x_field (off := 0) (o' := 0) rfl rfl rfl (by kernel_rfl) rfl) ?_
  refine AL_p (x_load1 rfl rfl rfl (by kernel_rfl) rfl) ?_
  refine AL_b (x_lss rfl rfl rfl) (fun b6 h6 => ?_)
  refine AL_p (x_move rfl rfl) ?_
  cases b6
  rotate_left
  · try simp only [tdy] at h6
    refine AL_o rfl rfl rfl rfl ?_
    refine AL_o rfl rfl rfl rfl ?_
    refine AL_o rfl rfl rfl rfl ?_
    refine AL_p (x_pickT rfl rfl rfl) ?_
    refine AL_p (x_move rfl rfl) ?_
    refine AL_o rfl rfl rfl rfl ?_
    refine AL_o rfl rfl rfl rfl ?_
    refine AL_o rfl rfl rfl rfl ?_
    refine AL_o rfl rfl rfl rfl ?_
    refine AL_p (x_pickT rfl rfl rfl) ?_
    refine AL_p (x_move rfl rfl) ?_
    refine AL_o rfl rfl rfl rfl ?_
    refine AL_o rfl rfl rfl rfl ?_
    refine AL_o rfl rfl rfl rfl ?_
    refine AL_o rfl rfl rfl rfl ?_
    refine AL_p (x_pickT rfl rfl rfl) ?_
    refine AL_nil ?_
    refine AW_condT rfl ?_
    refine AW_seq ?_
    refine AW_region ?_
    refine AL_p (x_assign rfl rfl) ?_
    refine AL_nil ?_
    refine AW_ret ?_
    exact ⟨rn [], ⟨⟨⟨_, rfl, vle_bool (by grind [ruleB])⟩, trivial⟩, trivial, trivial, rfl⟩⟩
  try simp only [tdy] at h6
  refine AL_g rfl rfl (x_field (off := 0) (o' := 0) rfl rfl rfl (by kernel_rfl) rfl) ?_
  refine AL_g rfl rfl (x_load1 rfl rfl rfl (by kernel_rfl) rfl) ?_
  refine AL_gb rfl rfl (x_gtr rfl rfl rfl) (fun b10 h10 => ?_)
  refine AL_p (x_pickF rfl rfl rfl) ?_
  refine AL_p (x_move rfl rfl) ?_
  cases b10
  rotate_left
  · try simp only [tdy] at h10
    refine AL_o rfl rfl rfl rfl ?_
    refine AL_o rfl rfl rfl rfl ?_
    refine AL_o rfl rfl rfl rfl ?_
    refine AL_o rfl rfl rfl rfl ?_
    refine AL_p (x_pickT rfl rfl rfl) ?_
    refine AL_p (x_move rfl rfl) ?_
    refine AL_o rfl rfl rfl rfl ?_
    refine AL_o rfl rfl rfl rfl ?_
    refine AL_o rfl rfl rfl rfl ?_
    refine AL_o rfl rfl rfl rfl ?_
    refine AL_p (x_pickT rfl rfl rfl) ?_
    refine AL_nil ?_
    refine AW_condT rfl ?_
    refine AW_seq ?_
    refine AW_region ?_
    refine AL_p (x_assign rfl rfl) ?_
    refine AL_nil ?_
    refine AW_ret ?_
    exact ⟨rn [], ⟨⟨⟨_, rfl, vle_bool (by grind [ruleB])⟩, trivial⟩, trivial, trivial, rfl⟩⟩
  try simp only [tdy] at h10
  refine AL_g rfl rfl (x_field (off := 1) (o' := 1) rfl rfl rfl (by kernel_rfl) rfl) ?_
  refine AL_g rfl rfl (x_loadN (n := 2) rfl rfl rfl (by kernel_rfl) rfl rfl) ?_
  refine AL_gb rfl rfl (x_call0 rfl rfl rfl (atomS_c r.head) rfl rfl) (fun b15 h15 => ?_)
  refine AL_g rfl rfl (x_not rfl rfl) ?_
  refine AL_p (x_pickF rfl rfl rfl) ?_
  refine AL_p (x_move rfl rfl) ?_
  cases b15
  · try simp only [tdy] at h15
    refine AL_o rfl rfl rfl rfl ?_
    refine AL_o rfl rfl rfl rfl ?_
    refine AL_o rfl rfl rfl rfl ?_
    refine AL_o rfl rfl rfl rfl ?_
    refine AL_p (x_pickT rfl rfl rfl) ?_
    refine AL_nil ?_
    refine AW_condT rfl ?_
    refine AW_seq ?_
    refine AW_region ?_
    refine AL_p (x_assign rfl rfl) ?_
    refine AL_nil ?_
    refine AW_ret ?_
    exact ⟨rn [], ⟨⟨⟨_, rfl, vle_bool (by grind [ruleB])⟩, trivial⟩, trivial, trivial, rfl⟩⟩
  try simp only [tdy] at h15
  refine AL_g rfl rfl (x_field (off := 3) (o' := 3) rfl rfl rfl (by kernel_rfl) rfl) ?_
  refine AL_g rfl rfl (x_load1 rfl rfl rfl (by kernel_rfl) rfl) ?_
  refine AL_g rfl rfl (x_len (E := 72) (n := 10) rfl rfl (by kernel_rfl)) ?_
  refine AL_gb rfl rfl (x_gtr rfl rfl rfl) (fun b22 h22 => ?_)
  refine AL_p (x_pickF rfl rfl rfl) ?_
  refine AL_nil ?_
  cases b22
  rotate_left
  · try simp only [tdy] at h22
    refine AW_condT rfl ?_
    refine AW_seq ?_
    refine AW_region ?_
    refine AL_p (x_assign rfl rfl) ?_
    refine AL_nil ?_
    refine AW_ret ?_
    exact ⟨rn [], ⟨⟨⟨_, rfl, vle_bool (by grind [ruleB])⟩, trivial⟩, trivial, trivial, rfl⟩⟩
  try simp only [tdy] at h22
  refine AW_condF rfl ?_
  refine AW_skip ?_
  refine AW_seq ?_
  refine AW_seq ?_
  refine AW_region ?_
  refine AL_p (x_field (off := 3) (o' := 3) rfl rfl rfl (by kernel_rfl) rfl) ?_
  refine AL_p (x_load1 rfl rfl rfl (by kernel_rfl) rfl) ?_
  refine AL_p (x_len (E := 72) (n := 10) rfl rfl (by kernel_rfl)) ?_
  refine AL_p (x_move rfl rfl) ?_
  refine AL_nil ?_
  refine AW_block ?_
  refine AW_loop2 (ι := {q : Nat // q ≤ r.body.length ∧ EachTo litB r.body q}) (fun p => [(27, .one (.c (.int .i64 ((p.1) : Int))))]) (fun p => []) [1, 26] [100] (fun p => r.body.length - (p.1)) ⟨0, ⟨by omega, .zero⟩⟩ (rn []) ?_ ?_
  exact ⟨by (repeat refine ⟨⟨_, rfl, by first | exact VLe.rf | exact vle_int (by dsimp only; omega)⟩, ?_⟩); exact trivial, by (repeat refine ⟨⟨_, rfl, by first | exact BLe.rf | exact BLe.box AllC.rf | exact BLe.arr (by exact rfl)⟩, ?_⟩); exact trivial, by repeat (first | exact trivial | refine ⟨⟨rfl, by first | (left; intro h; cases h) | (right; rfl), by first | exact (fun _ h => ⟨_, h⟩) | exact (fun _ _ => ⟨_, rfl⟩) | (intro _ h; cases h)⟩, ?_⟩), rfl⟩
  rintro ⟨k, hinv⟩
  dsimp only
  have hk := hinv.1
  have hA := hinv.2
  refine AW_seq ?_
  refine AW_region ?_
  refine AL_b (x_lss rfl rfl rfl) (fun b28 h28 => ?_)
  refine AL_nil ?_
  refine AW_seq ?_
  cases b28
  · try simp only [tdy] at h28
    have hall := hA.all (by omega)
    refine AW_condF rfl ?_
    refine AW_exit (BQ_hit ?_)
    refine AW_seq ?_
    refine AW_region ?_
    refine AL_p (x_assign rfl rfl) ?_
    refine AL_nil ?_
    refine AW_ret ?_
    exact ⟨rn [], ⟨⟨⟨_, rfl, vle_bool (by grind [ruleB])⟩, trivial⟩, trivial, trivial, rfl⟩⟩
  try simp only [tdy] at h28
  refine AW_condT rfl ?_
  refine AW_skip ?_
  refine AW_seq ?_
  refine AW_block ?_
  refine AW_seq ?_
  refine AW_region ?_
  refine AL_p (x_move rfl rfl) ?_
  refine AL_p (x_assign rfl rfl) ?_
  refine AL_nil ?_
  refine AW_seq ?_
  refine AW_region ?_
  refine AL_p (x_field (off := 3) (o' := 3) rfl rfl rfl (by kernel_rfl) rfl) ?_
  refine AL_p (x_load1 rfl rfl rfl (by kernel_rfl) rfl) ?_
  refine AL_p (x_move rfl rfl) ?_
  refine AL_p (x_index (E := 72) (n := 10) rfl rfl rfl (by kernel_rfl) rfl (k := k) (by omega) (by omega)) ?_
  refine AL_p (x_eloadW (n := 10) rfl rfl (by kernel_rfl) rfl) ?_
  refine AL_b (x_call0 rfl rfl rfl (litS_c _) rfl rfl) (fun b35 h35 => ?_)
  refine AL_p (x_not rfl rfl) ?_
  refine AL_nil ?_
  cases b35
  rotate_left
  · try simp only [tdy] at h35
    refine AW_condF rfl ?_
    refine AW_skip ?_
    refine AW_region ?_
    refine AL_p (x_add rfl rfl rfl (IntWalk.i64_in _ (by omega))) ?_
    refine AL_p (x_move rfl rfl) ?_
    refine AL_nil ?_
    refine ⟨⟨k + 1, ⟨by omega, hA.succ (by omega) h35⟩⟩, rn [], ?_, by dsimp only; omega⟩
    exact ⟨by (repeat refine ⟨⟨_, rfl, by first | exact VLe.rf | exact vle_int (by dsimp only; omega)⟩, ?_⟩); exact trivial, by (repeat refine ⟨⟨_, rfl, by first | exact BLe.rf | exact BLe.box AllC.rf | exact BLe.arr (by exact rfl)⟩, ?_⟩); exact trivial, by repeat (first | exact trivial | refine ⟨⟨rfl, by first | (left; intro h; cases h) | (right; rfl), by first | exact (fun _ h => ⟨_, h⟩) | exact (fun _ _ => ⟨_, rfl⟩) | (intro _ h; cases h)⟩, ?_⟩), rfl⟩
  try simp only [tdy] at h35
  have hall := EachTo.bad (by omega) h35
  refine AW_condT rfl ?_
  refine AW_seq ?_
  refine AW_region ?_
  refine AL_p (x_assign rfl rfl) ?_
  refine AL_nil ?_
  refine AW_ret (BQ_ret (BQ_ret ?_))
  exact ⟨rn [], ⟨⟨⟨_, rfl, vle_bool (by grind [ruleB])⟩, trivial⟩, trivial, trivial, rfl⟩⟩

end Go.Proofs.Ytkemjhlbokldhaa

/-
  DERIVED: THE SHELF's CONTRACTS AT THIS DUMP, IN PLAIN WORDS (tools/lay-plain.mjs out of 'TryShelf.lean', which tools/lay-shelf.mjs wrote): THE SAME DECLARATIONS UNDER THE SAME NAMES: 'import', 'namespace', 'open', 'def', 'theorem' AND NOTHING ELSE: no command of the shelf's: FOR A HAND-IN. Each laying: the table of numbers ('.._ren') and one theorem, a field a fact of the dump's own or the kernel's comparison; each contract: ONE APPLICATION.
-/
namespace Go.Proofs
open Go.Shelf
def Try.lays190_ren : Go.Shelf.Ren := ⟨fun | 190 => 134 | 125 => 156 | 258 => 155 | 128 => 172 | 129 => 173 | 302 => 163 | 303 => 164 | 304 => 165 | 305 => 166 | 306 => 167 | 307 => 168 | 308 => 169 | 309 => 170 | 310 => 171 | 333 => 176 | 329 => 177 | 330 => 178 | 334 => 179 | 335 => 180 | 336 => 181 | 344 => 182 | n => n, fun | 31 => 29 | 9 => 9 | 3 => 3 | 46 => 173 | 0 => 0 | 51 => 200 | 53 => 202 | 4 => 4 | 183 => 194 | 182 => 193 | 131 => 84 | 5 => 5 | 218 => 206 | 222 => 210 | 228 => 212 | 229 => 213 | n => n, fun | n => n⟩
theorem Try.lays190 : Go.Proofs.Lays.n190 Try.prog Try.lays190_ren := {
  mixed := by kernel_rfl
  f125 := Try.func156.trans (congrArg some (by kernel_rfl))
  f128 := Try.func172.trans (congrArg some (by kernel_rfl))
  f129 := Try.func173.trans (congrArg some (by kernel_rfl))
  f190 := Try.func134.trans (congrArg some (by kernel_rfl))
  f258 := Try.func155.trans (congrArg some (by kernel_rfl))
  f302 := Try.func163.trans (congrArg some (by kernel_rfl))
  f303 := Try.func164.trans (congrArg some (by kernel_rfl))
  f304 := Try.func165.trans (congrArg some (by kernel_rfl))
  f305 := Try.func166.trans (congrArg some (by kernel_rfl))
  f306 := Try.func167.trans (congrArg some (by kernel_rfl))
  f307 := Try.func168.trans (congrArg some (by kernel_rfl))
  f308 := Try.func169.trans (congrArg some (by kernel_rfl))
  f309 := Try.func170.trans (congrArg some (by kernel_rfl))
  f310 := Try.func171.trans (congrArg some (by kernel_rfl))
  f329 := Try.func177.trans (congrArg some (by kernel_rfl))
  f330 := Try.func178.trans (congrArg some (by kernel_rfl))
  f333 := Try.func176.trans (congrArg some (by kernel_rfl))
  f334 := Try.func179.trans (congrArg some (by kernel_rfl))
  f335 := Try.func180.trans (congrArg some (by kernel_rfl))
  f336 := Try.func181.trans (congrArg some (by kernel_rfl))
  f344 := Try.func182.trans (congrArg some (by kernel_rfl))
  t0 := Try.underlying0
  a0 := Try.isAgg0
  z0 := Try.sizeOf0
  v0 := Try.zeroValue0
  t3 := Try.underlying3
  a3 := Try.isAgg3
  z3 := Try.sizeOf3
  v3 := Try.zeroValue3
  t4 := Try.underlying4
  a4 := Try.isAgg4
  z4 := Try.sizeOf4
  v4 := Try.zeroValue4
  t5 := Try.underlying5
  a5 := Try.isAgg5
  z5 := Try.sizeOf5
  v5 := Try.zeroValue5
  t9 := Try.underlying9
  a9 := Try.isAgg9
  z9 := Try.sizeOf9
  v9 := Try.zeroValue9
  t31 := Try.underlying29
  a31 := Try.isAgg29
  z31 := Try.sizeOf29
  v31 := Try.zeroValue29
  t46 := Try.underlying173
  a46 := Try.isAgg173
  z46 := Try.sizeOf173
  v46 := Try.zeroValue173
  t51 := Try.underlying200
  a51 := Try.isAgg200
  z51 := Try.sizeOf200
  v51 := Try.zeroValue200
  t53 := Try.underlying202
  a53 := Try.isAgg202
  z53 := Try.sizeOf202
  v53 := Try.zeroValue202
  t131 := Try.underlying84
  a131 := Try.isAgg84
  z131 := Try.sizeOf84
  v131 := Try.zeroValue84
  t182 := Try.underlying193
  a182 := Try.isAgg193
  z182 := Try.sizeOf193
  v182 := Try.zeroValue193
  t183 := Try.underlying194
  a183 := Try.isAgg194
  z183 := Try.sizeOf194
  v183 := Try.zeroValue194
  t218 := Try.underlying206
  a218 := Try.isAgg206
  z218 := Try.sizeOf206
  v218 := Try.zeroValue206
  t222 := Try.underlying210
  a222 := Try.isAgg210
  z222 := Try.sizeOf210
  v222 := Try.zeroValue210
  t228 := Try.underlying212
  a228 := Try.isAgg212
  z228 := Try.sizeOf212
  v228 := Try.zeroValue212
  t229 := Try.underlying213
  a229 := Try.isAgg213
  z229 := Try.sizeOf213
  v229 := Try.zeroValue213 }
open Go.Sort Go.RowKit in
theorem Try.slices_Sort_string (blk off cap : Nat) (ss : List (List UInt8)) (w : World) (hH : Holds encStr w blk off ss.toArray) (hblk : blk < w.heap.size) (hsz : ss.length < 4611686018427387904) :
    Calls Try.prog 134 #[.slice (some ⟨blk, off, none⟩) ss.length cap] w fun e w' =>
      e = .returned (.tuple #[]) ∧ ∃ n os, w' = grow (putRow encStr (Sort.ahead w n) blk off (ss.mergeSort fun x y => decide (x ≤ y)).toArray) os := Any.slices_Sort_string Try.lays190 blk off cap ss w hH hblk hsz
def Try.lays194_ren : Go.Shelf.Ren := ⟨fun | 194 => 135 | n => n, fun | 31 => 29 | 9 => 9 | 3 => 3 | 4 => 4 | 0 => 0 | n => n, fun | n => n⟩
theorem Try.lays194 : Go.Proofs.Lays.n194 Try.prog Try.lays194_ren := {
  mixed := by kernel_rfl
  f194 := Try.func135.trans (congrArg some (by kernel_rfl))
  t0 := Try.underlying0
  a0 := Try.isAgg0
  z0 := Try.sizeOf0
  v0 := Try.zeroValue0
  t3 := Try.underlying3
  a3 := Try.isAgg3
  z3 := Try.sizeOf3
  v3 := Try.zeroValue3
  t4 := Try.underlying4
  a4 := Try.isAgg4
  z4 := Try.sizeOf4
  v4 := Try.zeroValue4
  t9 := Try.underlying9
  a9 := Try.isAgg9
  z9 := Try.sizeOf9
  v9 := Try.zeroValue9
  t31 := Try.underlying29
  a31 := Try.isAgg29
  z31 := Try.sizeOf29
  v31 := Try.zeroValue29 }
open Go.RowKit Go.Lib Go.Sort in
/-- slices.Compact at []string: "Compact replaces consecutive runs of equal elements with a single copy. This is like the uniq command found on Unix. Compact modifies the contents of the slice s and returns the modified slice, which may have a smaller length. Compact zeroes the elements between the new length and the original length. The result preserves the nilness of s.": IT RETURNS THE SLICE CUT TO 'Lib.compact zs'; ITS CELLS HOLD 'Lib.compact zs', THEN ZERO VALUES up to the old length; all else is ars it was, but for the count of draws. IN THE WORDS OF slices.Sort's CONTRACT ('Holds', 'putRow'): so the everyday 'slices.Sort(xs); xs = slices.Compact(xs)' goes from the one contract to the other. It asks 'zs.length ≤ cap' (every slice's: the reslicing 's[:k]' looks at it). Length 0, nil: '.._empty'. (LAID: no walk: one application.) -/
theorem Try.slices_Compact_string (blk off cap : Nat) (zs : List (List UInt8)) (w : World) (hH : Holds encStr w blk off zs.toArray) (hsz : zs.length ≤ 9223372036854775807) (hcap : zs.length ≤ cap) :
    Calls Try.prog 135 #[.slice (some ⟨blk, off, none⟩) zs.length cap] w fun e w' => e = .returned (.slice (some ⟨blk, off, none⟩) (Lib.compact zs).length cap) ∧ ∃ q, w' = putRow encStr (Sort.ahead w q) blk off (Lib.compact zs ++ List.replicate (zs.length - (Lib.compact zs).length) []).toArray := Any.slices_Compact_string Try.lays194 blk off cap zs w hH hsz hcap
open Go.RowKit Go.Lib Go.Sort in
/-- The same at a slice of length 0, a nil one too: it comes back ars it is. (LAID: no walk: one application.) -/
theorem Try.slices_Compact_string_empty (a : Option Addr) (cap : Nat) (w : World) :
    Calls Try.prog 135 #[.slice a 0 cap] w fun e w' => e = .returned (.slice a 0 cap) ∧ w' = w := Any.slices_Compact_string_empty Try.lays194 a cap w
open Go.RowKit Go.Sort in
/-- .. and plain. (LAID: no walk: one application.) -/
theorem Try.slices_Sort_string_none (p : Option Addr) (cap : Nat) (w : World) :
    Calls Try.prog 134 #[.slice p 0 cap] w fun e w' => e = .returned (.tuple #[]) ∧ w' = w := Any.slices_Sort_string_none Try.lays190 p cap w
end Go.Proofs

/- A contract that takes arrays and leaves others, under other numbers. -/
namespace Go.Proofs.Ytkemjhlbokldhaa
open Go.RowKit
set_option linter.unusedVariables false

theorem all2_unren {r : Nat → Nat} {l L : Locs} {g : Gh} {w : World} (hL : LeL r l L) : ∀ {vs : List Value} {xs : List AVal}, All2 (VR1 g l w) vs (xs.map (AVal.ren1 r)) → All2 (VR1 (g.ren r) L w) vs xs
  | [], [], _ => trivial
  | v :: vs, x :: xs, h => ⟨VR1.unren hL h.1, all2_unren hL h.2⟩
  | [], _ :: _, h => by cases h
  | _ :: _, [], h => by cases h
/-- A contract that takes the blocks L: what becomes of them is not told. -/
structure AT (P : Program) (f : FuncId) (args : List AVal) (L : Locs) (res : AVal) (L' : Locs) : Prop where
  fn : Callable P f
  run : ∀ (g : Gh) (w : World) (cargs : Array Value), MemR g L w → All2 (VR1 g L w) cargs.toList args →
    Calls P f cargs w fun e w' => ∃ v g', e = .returned v ∧ MemR g' L' w' ∧ VR g' L' w' v res ∧ Step [] g L w g' L' w'
section body
variable {P : Program} {N : Nat} {f : FuncId} {fn : Func} {c : Code} {args : List AVal} {L L' : Locs}
end body
/-- The lent blocks l are all gone behind the call. -/
theorem AT.lend {P : Program} {f : FuncId} {args : List AVal} {L L' l l' : Locs} {res' : AVal} (r s : Nat → Nat) (h : AT P f args L (res'.ren s) L') (hL : LeL r l L) (hi : injL r (keys L) = true) (hL' : LeL s L' l') (hi' : injL s (keys l') = true)
    (hg : ∀ k ∈ keys l, lk l' k = some none) (hb : ∀ k cs, lkl l k ≠ some (.box cs)) : AC P f (args.map (AVal.ren1 r)) l res' l' :=
  ⟨h.fn, fun g w cargs m ha => (h.run (g.ren r) w cargs (m.unren hL hi) (all2_unren hL ha)).mono (by
    rintro e w' ⟨v, g1, rfl, m1, hv, hs⟩
    have m0 := m.unren hL hi
    have A : Step [] g l w (g.ren r) L w := Step.unren hL trivial
    have B : Step [] (g.ren r) L w g1 L' w' := hs
    have C : Step [] g1 L' w' (g1.ren s) l' w' := Step.unren hL' trivial
    have T := (A.trans m m0 B).trans m m1 C
    refine ⟨v, g1.ren s, rfl, m1.unren hL' hi', VR.unren hL' hv, { T with base := fun k hk hn => ?_ }⟩
    have h1 := hg k hk
    have h2 : lkl l' k = none := by unfold lkl; rw [h1]
    exact ⟨by rw [h1]; simp, okK.gone h2, fun cs hc => absurd hc (hb k cs)⟩)⟩
/-- One array is taken, one is left. -/
theorem AT.lend1 {P : Program} {f : FuncId} {rest : List AVal} {α β : Type} {T U : TypeId} {e : Enc α} {e' : Enc β} {xs : List α} {ys : List β} {d d' : Bool}
    (h : AT P f (.one (.own 0) :: rest) [(0, some (.arr T e xs d))] (.one (.own 1)) [(1, some (.arr U e' ys d'))]) (a c : Nat) (hac : Nat.beq a c = false) (hrest : ∀ r, rest.map (AVal.ren1 r) = rest) :
    AC P f (.one (.own a) :: rest) [(a, some (.arr T e xs d))] (.one (.own c)) [(a, none), (c, some (.arr U e' ys d'))] := by
  have hne : a ≠ c := fun h => by rw [h, Nat.beq_refl] at hac; cases hac
  have hs : (fun k => bif Nat.beq k a then 0 else 1) c = 1 := by
    show (bif Nat.beq c a then 0 else 1) = 1
    have : Nat.beq c a = false := by
      cases e : Nat.beq c a
      · rfl
      · exact absurd (Nat.eq_of_beq_eq_true e).symm hne
    rw [this]; rfl
  have := AT.lend (res' := .one (.own c)) (l := [(a, some (.arr T e xs d))]) (l' := [(a, none), (c, some (.arr U e' ys d'))]) (fun _ => a) (fun k => bif Nat.beq k a then 0 else 1) (L := [(0, some (.arr T e xs d))]) (L' := [(1, some (.arr U e' ys d'))])
    (by show AT P f _ _ (.one (.own _)) _; rw [hs]; exact h) ⟨⟨.arr T e xs d, by simp [lkl, lk], (BLe.rf : BLe (.arr T e xs d) (.arr T e xs d))⟩, trivial⟩ (by simp [injL, keys]) ⟨⟨_, by rw [hs]; rfl, BLe.rf⟩, trivial⟩ (by
      have h2 : Nat.beq c a = false := by
        cases e : Nat.beq c a
        · rfl
        · exact absurd (Nat.eq_of_beq_eq_true e).symm hne
      simp [injL, keys, h2]
      rfl) (fun k hk => by simp [keys] at hk; subst hk; simp [lk]) (fun k cs hc => by
        cases hq : Nat.beq a k <;> simp [lkl, lk, hq] at hc)
  rw [List.map_cons, hrest] at this
  exact this
end Go.Proofs.Ytkemjhlbokldhaa

/- Elements ars the cells that hold them: what a function that moves elements about does with an array of one's own, footprint and all. -/
namespace Go.Proofs.Ytkemjhlbokldhaa
open Go.RowKit
set_option linter.unusedVariables false

/-- A datum, the cells that hold it, and its footprint. -/
structure Raw (α : Type) where
  x : α
  vs : List Value
  b : List Nat
theorem CLe.rx {α : Type} {e : Enc α} {f : α → List Cell} [hc : CellsOf e f] {x : α} {vs : List Value} {b : List Nat} {j : Nat} {y : Cell} (h : nthC (f x) j = some y) : CLe (.rx e x vs b j) y := fun g l w v h1 => by
  obtain ⟨v', h2, h3⟩ := ((hc.iff.1 h1.2.1).all2 h1.2.2).get (nthC_get h)
  have h4 := h1.1.1
  rw [h4] at h2; cases h2
  exact h3
end Go.Proofs.Ytkemjhlbokldhaa

/- Contracts told of the cells of a row, ars contracts of arrays of one's own. -/
namespace Go.Proofs.Ytkemjhlbokldhaa
open Go.RowKit
set_option linter.unusedVariables false

section
variable {g : Gh} {l : Locs} {w w' : World}
/-- A row of one's own made anew out of others, ars it is seen from numbers. -/
theorem row_lay (m : MemR g l w) {k k' : Nat} (hk' : lk l k' = none) (hki : k' ∉ l.ids) {js : List Nat} (hkj : k ∈ js) (hjs : ∀ j ∈ js, ∃ (α : Type) (T : TypeId) (e : Enc α) (xs : List α) (d : Bool), lkl l j = some (.arr T e xs d))
    {α : Type} {E : TypeId} {e : Enc α} {f : α → List Cell} [hc : CellsOf e f] {zs : List α} {d : Bool} {cells : List Value} {b3 : List Nat} {v' : Value}
    (hF : FR w cells (zs.flatMap f) b3) (hI : ∀ b ∈ b3, g.I b) (hob : ∀ b, (g.hd k).ownBlock = some b → b = g.ρ k)
    (hrow : w'.ownsRow 0 E e.size v' zs.length cells) (hgr : w.grownBy w' (g.hd k).ownBlock) (hblk : ∀ b, v'.ownBlock = some b → (g.hd k).ownBlock = some b ∨ w.heap.size ≤ b)
    (hd : d = true → b3.Nodup ∧ ∀ b ∈ b3, ∃ j ∈ js, Via g l j b) :
    ∃ g', g'.hd k' = v' ∧ MemR g' ((k', some (.arr E e zs d)) :: (gones js ++ l)) w' ∧ (∀ K, Step K g l w g' ((k', some (.arr E e zs d)) :: (gones js ++ l)) w') := by
  obtain ⟨α0, T0, e0, xs0, d0, hk0⟩ := hjs k hkj
  have hlive : ∀ b, (g.hd k).ownBlock = some b → g.hd k ≠ .slice none 0 0 := fun b hb e => by rw [e] at hb; cases hb
  have hnI : ∀ b, (g.hd k).ownBlock = some b → ¬ g.I b := fun b hb => by rw [hob b hb]; exact m.notI hk0 (hlive b hb)
  have hkeepI : ∀ b, g.I b → w'.heap[b]? = w.heap[b]? := fun b hb => hgr.block b (m.ilt b hb) fun e => hnI b e.symm hb
  have hFR := hF.keep (w' := w') (fun b hb => hkeepI b (hI b hb)) hgr.size
  have hIb : ∀ b, v'.ownBlock = some b → ¬ (g.I b ∨ liveA g [] b) := fun b hb h => by
    rcases h with h | ⟨j, hj, _⟩
    · rcases hblk b hb with h1 | h1
      · exact hnI b h1 h
      · have := m.ilt b h; omega
    · cases hj
  obtain ⟨g', q1, q2, q3, q4, q5, q6, q7⟩ := arr_new (w' := w') m hk' hki (js := js) (fz := []) (fun _ h => by cases h) hjs (T := E) (e := e) (xs := zs) (d := d) (blk := (v'.ownBlock).getD 0) (v := v') (fp := b3)
    hgr.os hgr.tape hgr.output hgr.size (fun b hb hn => hgr.block b hb fun e => hn k hkj (by simp) (hlive b e.symm) (hob b e.symm))
    (ArrR.lay hrow hFR (fun b hb => .inl (hI b hb)) (fun b hb => ⟨by rw [hb]; rfl, hIb b hb⟩))
    (fun hv => by
      rcases hrow.2 with ⟨h1, _⟩ | ⟨b, cap, cur, h1, _, h3, _⟩
      · exact absurd h1 hv
      · have hb : v'.ownBlock = some b := by rw [h1]; rfl
        rw [hb]
        refine ⟨(Array.getElem?_eq_some_iff.1 h3).1, ?_⟩
        rcases hblk b hb with h | h
        · exact .inr ⟨k, hkj, by simp, hlive b h, hob b h⟩
        · exact .inl h)
    (fun hdd => ⟨(hd hdd).1, fun b hb => ⟨.inl (hI b hb), by
      obtain ⟨j, hj, hv⟩ := (hd hdd).2 b hb
      obtain ⟨c, t, h⟩ := hv.cells m
      exact ⟨c, t, by rw [hkeepI b (hI b hb)]; exact h⟩, (hd hdd).2 b hb⟩⟩)
  exact ⟨g', q2, q3, q4⟩
end
/-- Only the last-made array is left. -/
theorem MemR.last {g : Gh} {l : Locs} {w : World} {k : Nat} {b : Blk} (m : MemR g ((k, some b) :: l) w) : MemR g [(k, some b)] w := by
  have hlk : ∀ j c, lkl [(k, some b)] j = some c → lkl ((k, some b) :: l) j = some c := fun j c hc => by
    by_cases h : k = j
    · subst h; rw [lkl_cons_self] at hc ⊢; exact hc
    · rw [lkl_cons_ne h] at hc; cases hc
  refine ⟨m.ilt, fun j cs hc => ?_, fun j β T e2 ys2 d hc => m.arr j _ _ _ _ _ (hlk _ _ hc), fun i j b1 b2 hij h1 h2 => m.dis i j _ _ hij (hlk _ _ h1) (hlk _ _ h2), fun j β T e2 ys2 hc => m.fr j _ _ _ _ (hlk _ _ hc), fun i j β γ T U e2 e3 y2 z2 hij h1 h2 => m.fd i j _ _ _ _ _ _ _ _ hij (hlk _ _ h1) (hlk _ _ h2)⟩
  obtain ⟨vs, t, h1, h2, h3⟩ := m.box j cs (hlk _ _ hc)
  refine ⟨vs, t, h1, h2.mono fun a c hcm hr => ?_, h3⟩
  exact CellR.step (fun _ _ => rfl) (fun _ h => h) (Nat.le_refl _) (fun i _ => ⟨fun cs' h => ⟨rfl, cs', hlk _ _ h⟩, fun β T e2 xs d h => ⟨β, T, e2, xs, d, hlk _ _ h, rfl, rfl, rfl⟩⟩) hr
theorem Step.last {g g' : Gh} {l0 l : Locs} {w w' : World} {k : Nat} {b : Blk} (h : Step [] g l0 w g' ((k, some b) :: l) w') : Step [] g l0 w g' [(k, some b)] w' :=
  ⟨h.os, h.tape, h.output, h.size, h.keep, h.imm, h.imm', (fun c hc => by
    obtain ⟨j, blk, h1, h2⟩ := hc
    refine h.own c ⟨j, blk, ?_, h2⟩
    by_cases e : k = j
    · subst e; rw [lkl_cons_self] at h1 ⊢; exact h1
    · rw [lkl_cons_ne e] at h1; exact absurd h1 (by simp [lkl, lk])), fun k hk => by cases hk⟩
/-- What a function does with the cells of one row. -/
theorem AT.row1 {P : Program} {fid : FuncId} {rest : List AVal} {α : Type} {e : Enc α} {f : α → List Cell} [hc : CellsOf e f] {E : TypeId} {xs ys : List α} {d : Bool} (hfn : Callable P fid)
    (h : ∀ (w : World) (v : Value) (vs : List Value) (cells : List Value) (bs : List Nat) (g : Gh) (L : Locs), All2 (VR1 g L w) vs rest → MemR g L w → w.ownsRow 0 E e.size v xs.length cells → FR w cells (xs.flatMap f) bs → (∀ u ∈ cells, u.oneCell' = true) → (∀ b ∈ bs, v.ownBlock ≠ some b) →
      Calls P fid (v :: vs).toArray w fun en w' => ∃ v' cells', en = .returned v' ∧ w'.ownsRow 0 E e.size v' ys.length cells' ∧ w.grownBy w' v.ownBlock ∧ (∀ b, v'.ownBlock = some b → v.ownBlock = some b ∨ w.heap.size ≤ b) ∧
        ∃ bs', FR w cells' (ys.flatMap f) bs' ∧ (bs.Nodup → bs'.Nodup) ∧ ∀ b ∈ bs', b ∈ bs) :
    AT P fid (.one (.own 0) :: rest) [(0, some (.arr E e xs d))] (.one (.own 1)) [(1, some (.arr E e ys d))] := by
  refine ⟨hfn, fun g w cargs m ha => ?_⟩
  have hk : lkl [(0, some (Blk.arr E e xs d))] 0 = some (.arr E e xs d) := rfl
  obtain ⟨cells, bs, r1, f1, i1, F1, ob1⟩ := (m.arr 0 _ _ _ _ _ hk).row
  have : ∃ v vs, cargs = (v :: vs).toArray := by
    cases hc' : cargs.toList with
    | nil => rw [hc'] at ha; exact ha.elim
    | cons v vs => exact ⟨v, vs, by rw [← hc', Array.toArray_toList]⟩
  obtain ⟨v, vs, rfl⟩ := this
  have hv : v = g.hd 0 := ha.1 _ _ _ _ _ hk
  subst hv
  refine (h w _ vs cells bs g _ ha.2 m r1 f1 (FR.one f1) (fun b hb e0 => ?_)).mono ?_
  · have h1 := ob1 b e0
    subst h1
    exact m.notI hk (fun e1 => by rw [e1] at e0; cases e0) (i1 _ hb)
  · rintro en w' ⟨v', cells', rfl, t1, t2, t3, bs', t4, t5, t6⟩
    obtain ⟨g', s1, s2, s3⟩ := row_lay (w' := w') m (k := 0) (k' := 1) rfl (by simp [Locs.ids]) (js := [0]) (by simp) (fun j hj => by simp at hj; subst hj; exact ⟨α, E, e, xs, d, hk⟩) (zs := ys) (d := d) t4 (fun b hb => i1 b (t6 b hb)) ob1 t1 t2 t3 (fun hd => by
      subst hd
      refine ⟨t5 (by rw [← F1 rfl]; exact (m.fr 0 _ _ _ _ hk).1), fun b hb => ⟨0, by simp, α, E, e, xs, hk, .inr (by rw [F1 rfl]; exact t6 b hb)⟩⟩)
    exact ⟨v', g', rfl, s2.last, fun β U e2 ys2 dd hcx => s1.symm, (s3 []).last⟩
/-! ### Elements of some cells, copied and cleared -/
theorem FR.flatLen {α : Type} {e : Enc α} {f : α → List Cell} [hc : CellsOf e f] {w : World} : ∀ {xs : List α} {vs : List Value} {b : List Nat}, FR w vs (xs.flatMap f) b → vs.length = xs.length * e.size
  | [], [], b, h => by simp
  | [], _ :: _, b, h => h.elim
  | x :: xs, vs, b, h => by
    rw [List.flatMap_cons] at h
    obtain ⟨v1, v2, b1, b2, rfl, rfl, h1, h2⟩ := FR.app.1 h
    have l1 := e.len (hc.iff.2 h1)
    have l2 := FR.flatLen (e := e) h2
    rw [List.length_append, l1, l2, List.length_cons, Nat.add_mul]; omega
theorem FR.parts {α : Type} {e : Enc α} {f : α → List Cell} [hc : CellsOf e f] {w : World} {xs : List α} {cells : List Value} {bs : List Nat} (h : FR w cells (xs.flatMap f) bs) {i : Nat} (hi : i ≤ xs.length) :
    ∃ b1 b3, bs = b1 ++ b3 ∧ FR w (cells.take (i * e.size)) ((xs.take i).flatMap f) b1 ∧ FR w (cells.drop (i * e.size)) ((xs.drop i).flatMap f) b3 := by
  have e0 : xs.flatMap f = (xs.take i).flatMap f ++ (xs.drop i).flatMap f := by rw [← List.flatMap_append, List.take_append_drop]
  rw [e0] at h
  obtain ⟨v1, v2, b1, b3, rfl, rfl, h1, h2⟩ := FR.app.1 h
  have l1 := FR.flatLen (e := e) h1
  rw [List.length_take, Nat.min_eq_left hi] at l1
  exact ⟨b1, b3, rfl, by rw [List.take_left' l1]; exact h1, by rw [List.drop_left' l1]; exact h2⟩
end Go.Proofs.Ytkemjhlbokldhaa

/- What a function does with the elements of one array in its place. -/
namespace Go.Proofs.Ytkemjhlbokldhaa
open Go.RowKit
set_option linter.unusedVariables false

theorem AC.inplace {P : Program} {fid : FuncId} {rest : List AVal} {α : Type} {e : Enc α} {f : α → List Cell} [hc : CellsOf e f] {E : TypeId} {xs ys : List α} {d : Bool} (hfn : Callable P fid)
    (h : ∀ (w : World) (v : Value) (vs cells : List Value) (bs : List Nat) (g : Gh), All2 (VR1 g [(0, some (Blk.arr E e xs d))] w) vs rest → w.ownsRow 0 E e.size v xs.length cells → FR w cells (xs.flatMap f) bs → (∀ u ∈ cells, u.oneCell' = true) → (∀ b ∈ bs, v.ownBlock ≠ some b) →
      Calls P fid (v :: vs).toArray w fun en w' => en = .returned (.tuple #[]) ∧ ∃ cells' bs', w'.ownsRow 0 E e.size v ys.length cells' ∧ w.grownBy w' v.ownBlock ∧ FR w cells' (ys.flatMap f) bs' ∧ bs'.Perm bs) :
    AC P fid (.one (.own 0) :: rest) [(0, some (.arr E e xs d))] (.tup []) [(0, some (.arr E e ys d))] := by
  refine ⟨hfn, fun g w cargs m ha => ?_⟩
  have hk : lkl [(0, some (Blk.arr E e xs d))] 0 = some (.arr E e xs d) := rfl
  obtain ⟨cells, bs, r1, f1, i1, F1, ob1⟩ := (m.arr 0 _ _ _ _ _ hk).row
  have : ∃ v vs, cargs = (v :: vs).toArray := by
    cases hc' : cargs.toList with
    | nil => rw [hc'] at ha; exact ha.elim
    | cons v vs => exact ⟨v, vs, by rw [← hc', Array.toArray_toList]⟩
  obtain ⟨v, vs, rfl⟩ := this
  have hv : v = g.hd 0 := ha.1 _ _ _ _ _ hk
  subst hv
  have hlive : ∀ b, (g.hd 0).ownBlock = some b → g.hd 0 ≠ .slice none 0 0 := fun b hb e0 => by rw [e0] at hb; cases hb
  have hnI : ∀ b, (g.hd 0).ownBlock = some b → ¬ g.I b := fun b hb => by rw [ob1 b hb]; exact m.notI hk (hlive b hb)
  refine (h w _ vs cells bs g ha.2 r1 f1 (FR.one f1) (fun b hb e0 => hnI b e0 (i1 b hb))).mono ?_
  rintro en w' ⟨rfl, cells', bs', t1, t2, t3, t4⟩
  have hkeepI : ∀ b, g.I b → w'.heap[b]? = w.heap[b]? := fun b hb => t2.block b (m.ilt b hb) fun e0 => hnI b e0.symm hb
  have hI' : ∀ b ∈ bs', g.I b := fun b hb => i1 b (t4.mem_iff.1 hb)
  have hFR := t3.keep (w' := w') (fun b hb => hkeepI b (hI' b hb)) t2.size
  let g2 : Gh := ⟨g.I, g.ρ, g.hd, fun _ => bs'⟩
  have hlk : ∀ k b, lkl [(0, some (Blk.arr E e ys d))] k = some b → k = 0 ∧ b = .arr E e ys d := fun k b hb => by
    by_cases hk0 : k = 0
    · subst hk0; exact ⟨rfl, by cases hb; rfl⟩
    · rw [lkl_cons_ne (Ne.symm hk0)] at hb; cases hb
  have m2 : MemR g2 [(0, some (.arr E e ys d))] w' := by
    refine ⟨fun b hb => Nat.lt_of_lt_of_le (m.ilt b hb) t2.size, fun k cs hb => ?_, fun k β T e2 ys2 d2 hb => ?_, fun j k b b' hjk hj hk' => ?_, fun k β T e2 ys2 hb => ?_, fun j k β γ T U e2 e3 ys2 zs2 hjk hj hk' => ?_⟩
    · have := (hlk _ _ hb).2; cases this
    · obtain ⟨rfl, h2⟩ := hlk _ _ hb
      cases h2
      exact ArrR.ofRow (g := g2) (e := e) (f := f) (cells := cells') (bs := bs') t1 hFR hI' (fun _ => rfl) fun b hb => ⟨ob1 b hb, hnI b hb⟩
    · obtain ⟨rfl, _⟩ := hlk _ _ hj
      obtain ⟨rfl, _⟩ := hlk _ _ hk'
      exact absurd rfl hjk
    · obtain ⟨rfl, h2⟩ := hlk _ _ hb
      cases h2
      obtain ⟨n1, n2⟩ := m.fr 0 _ _ _ _ hk
      rw [F1 rfl] at n1 n2
      refine ⟨t4.nodup_iff.2 n1, fun b hb => ?_⟩
      obtain ⟨p1, c, t, p2⟩ := n2 b (t4.mem_iff.1 hb)
      exact ⟨p1, c, t, by rw [hkeepI b p1]; exact p2⟩
    · obtain ⟨rfl, _⟩ := hlk _ _ hj
      obtain ⟨rfl, _⟩ := hlk _ _ hk'
      exact absurd rfl hjk
  refine ⟨_, g2, rfl, m2, ⟨[], rfl, trivial⟩, ⟨t2.os, t2.tape, t2.output, t2.size, fun b hb hn => t2.block b hb fun e0 => hn 0 _ hk (hlive b e0.symm) (ob1 b e0.symm), fun _ h => h, fun _ h => .inl h, fun b hb => ?_, fun k hk' _ => ?_⟩⟩
  · obtain ⟨k, blk, h1, h2⟩ := hb
    obtain ⟨rfl, rfl⟩ := hlk _ _ h1
    left
    rcases h2 with ⟨h2, h3⟩ | ⟨β, T, e2, xs2, h2, h3⟩
    · exact ⟨0, _, hk, .inl ⟨h2, h3⟩⟩
    · cases h2
      exact ⟨0, _, hk, .inr ⟨_, _, _, _, rfl, by rw [F1 rfl]; exact t4.mem_iff.1 h3⟩⟩
  · simp [keys] at hk'
    subst hk'
    refine ⟨by simp [lk], ⟨fun cs' h => (by have := (hlk _ _ h).2; cases this), fun β T e2 xs2 d2 h => ?_⟩, fun cs h => (by rw [hk] at h; cases h)⟩
    obtain ⟨_, h2⟩ := hlk _ _ h
    cases h2
    exact ⟨_, _, _, _, _, hk, rfl, rfl, rfl⟩
end Go.Proofs.Ytkemjhlbokldhaa

/- slices.Sort and slices.Compact of strings, told of data. -/
namespace Go.Proofs.Ytkemjhlbokldhaa
open Go.RowKit Go.Sort
set_option linter.unusedVariables false

theorem strFR {w : World} : ∀ {xs : List ByteArray} {cells : List Value} {bs : List Nat}, FR w cells (xs.flatMap fun s => [Cell.c (.string s)]) bs → cells = xs.map Value.string ∧ bs = [] ∧ ∀ s ∈ xs, s.size ≤ maxLen
  | [], [], bs, h => ⟨rfl, h, fun s hs => by cases hs⟩
  | [], _ :: _, bs, h => h.elim
  | x :: xs, cells, bs, h => by
    rw [List.flatMap_cons] at h
    obtain ⟨v1, v2, b1, b2, rfl, rfl, h1, h2⟩ := FR.app.1 h
    obtain ⟨rfl, hsz, rfl⟩ : strE.rep w v1 x b1 := (CellsOf.iff (e := strE)).2 h1
    obtain ⟨rfl, rfl, hm⟩ := strFR h2
    refine ⟨rfl, rfl, fun s hs => ?_⟩
    rcases List.mem_cons.1 hs with rfl | hs
    · exact hsz
    · exact hm s hs
theorem strFR' {w : World} : ∀ {xs : List ByteArray}, (∀ s ∈ xs, s.size ≤ maxLen) → FR w (xs.map Value.string) (xs.flatMap fun s => [Cell.c (.string s)]) []
  | [], _ => rfl
  | x :: xs, h => by
    rw [List.flatMap_cons]
    exact FR.app.2 ⟨[.string x], xs.map Value.string, [], [], rfl, rfl, (CellsOf.iff (e := strE)).1 ⟨rfl, h x List.mem_cons_self, rfl⟩, strFR' fun s hs => h s (List.mem_cons_of_mem _ hs)⟩
def toL (s : ByteArray) : List UInt8 := s.data.toList
def unL (l : List UInt8) : ByteArray := ⟨l.toArray⟩
theorem unL_toL (s : ByteArray) : unL (toL s) = s := by cases s; simp [unL, toL]
theorem toL_unL (l : List UInt8) : toL (unL l) = l := by simp [unL, toL]
theorem enc_toL (s : ByteArray) : encStr (toL s) = .string s := congrArg Value.string (unL_toL s)
def sortStr (xs : List ByteArray) : List ByteArray := ((xs.map toL).mergeSort fun x y => decide (x ≤ y)).map unL
def compStr (xs : List ByteArray) : List ByteArray := (Lib.compact (xs.map toL)).map unL
theorem sortStr_mem {xs : List ByteArray} {s : ByteArray} : s ∈ sortStr xs ↔ s ∈ xs := by
  unfold sortStr
  simp only [List.mem_map, List.mem_mergeSort]
  constructor
  · rintro ⟨l, ⟨t, ht, rfl⟩, rfl⟩
    rw [unL_toL]; exact ht
  · exact fun h => ⟨toL s, ⟨s, h, rfl⟩, unL_toL s⟩
theorem map_enc (l : List (List UInt8)) : l.map encStr = (l.map unL).map Value.string := by simp [unL]
theorem str_holds {w : World} {g : Nat} {E : TypeId} {cur : Array Value} {xs : List ByteArray} (hg : w.heap[g]? = some (.cells cur E (0, 0))) (htk : cur.toList.take xs.length = xs.map Value.string) : Holds encStr w g 0 (xs.map toL).toArray := by
  intro j hj
  have hj' : j < xs.length := by simpa using hj
  refine ⟨?_, by simp [World.frozen?, hg]⟩
  have h1 : (cur.toList.take xs.length)[j]? = (xs.map Value.string)[j]? := by rw [htk]
  rw [List.getElem?_take_of_lt (by omega)] at h1
  simp only [World.cell?, hg, Nat.zero_add, Option.isSome_none, Bool.false_eq_true, if_false]
  rw [← Array.getElem?_toList, h1, getElem!_pos _ j hj]
  simp [hj', enc_toL]
theorem putStr_take {cur : Array Value} {d : List (List UInt8)} {n : Nat} (hn : n ≤ d.length) (h : d.length ≤ cur.size) : (putCells encStr 0 d.toArray cur).toList.take n = (d.take n).map encStr := by
  apply List.ext_getElem?
  intro j
  by_cases hj : j < n
  · rw [List.getElem?_take_of_lt hj, Array.getElem?_toList]
    have h1 : j < d.length := by omega
    simp [putCells, h1, show j < cur.size by omega, hj]
  · rw [List.getElem?_take_eq_none (by omega), List.getElem?_eq_none (by simp; omega)]
theorem putStr_heap {w : World} {g n : Nat} {E : TypeId} {cur : Array Value} {d : Array (List UInt8)} (hg : w.heap[g]? = some (.cells cur E (0, 0))) : (putRow encStr (Go.Sort.ahead w n) g 0 d).heap[g]? = some (.cells (putCells encStr 0 d cur) E (0, 0)) := by
  simp [putRow, mapBlock, Go.Sort.ahead, Array.getElem?_modify, hg, onCells]
theorem putStr_other {w : World} {g n k : Nat} {d : Array (List UInt8)} (h : k ≠ g) : (putRow encStr (Go.Sort.ahead w n) g 0 d).heap[k]? = w.heap[k]? := by
  simp [putRow, mapBlock, Go.Sort.ahead, Array.getElem?_modify, Ne.symm h]
theorem size_putStr {w : World} {g n : Nat} {d : Array (List UInt8)} : (putRow encStr (Go.Sort.ahead w n) g 0 d).heap.size = w.heap.size := by simp [putRow, mapBlock, Go.Sort.ahead]

theorem sortStr_c (xs : List ByteArray) (hl : xs.length ≤ 1048576) (d : Bool) :
    AC Try.prog 134 [.one (.own 0)] [(0, some (.arr 9 strE xs d))] (.tup []) [(0, some (.arr 9 strE (sortStr xs) d))] :=
  AC.inplace ⟨_, _, Try.func134, rfl, rfl⟩ fun w v vs cells bs g ha hown hF h1 hb => by
    match vs, ha with
    | [], ha =>
      obtain ⟨rfl, rfl, hsz⟩ := strFR hF
      rcases hown.2 with ⟨rfl, h0⟩ | ⟨gb, cap, cur, rfl, _, hg, hle, hcap, hcs, htk⟩
      · have e0 : xs = [] := List.eq_nil_of_length_eq_zero h0
        subst e0
        refine (Go.Proofs.Try.slices_Sort_string_none none 0 w).mono ?_
        rintro en w' ⟨rfl, rfl⟩
        exact ⟨rfl, [], [], ⟨by simp [sortStr], .inl ⟨rfl, by simp [sortStr]⟩⟩, ⟨rfl, rfl, rfl, Nat.le_refl _, fun k _ _ => rfl⟩, by simp [sortStr, FR], List.Perm.refl _⟩
      · have hgl : gb < w.heap.size := (Array.getElem?_eq_some_iff.1 hg).1
        have hs1 : strE.size = 1 := rfl
        rw [hs1, Nat.mul_one] at hcs htk
        have hH := str_holds hg htk
        have hc := Go.Proofs.Try.slices_Sort_string gb 0 cap (xs.map toL) w hH hgl (by rw [List.length_map]; omega)
        rw [List.length_map] at hc
        refine Calls.mono hc ?_
        rintro en w' ⟨rfl, n, os, rfl⟩
        have hlen : ((xs.map toL).mergeSort fun x y => decide (x ≤ y)).length = xs.length := by simp
        have hl2 : (sortStr xs).length = xs.length := by simp [sortStr]
        refine ⟨rfl, (sortStr xs).map Value.string, [], ⟨by rw [hl2]; simp [hl2, hs1], .inr ⟨gb, cap, putCells encStr 0 ((xs.map toL).mergeSort fun x y => decide (x ≤ y)).toArray cur, by rw [hl2], Nat.zero_le _, ?_, by rw [hl2]; exact hle, hcap, ?_, ?_⟩⟩, ⟨rfl, rfl, rfl, by rw [size_grow, size_putStr]; exact Nat.le_add_right _ _, fun k hk hne => ?_⟩, strFR' fun s hs => hsz s (sortStr_mem.1 hs), List.Perm.refl _⟩
        · rw [heap_grow_old _ _ (by rw [size_putStr]; exact hgl)]
          exact putStr_heap hg
        · simpa [putCells, hs1] using hcs
        · rw [hs1, Nat.mul_one, hl2, putStr_take (by rw [hlen]; exact Nat.le_refl _) (by rw [hlen]; omega), List.take_of_length_le (by rw [hlen]; exact Nat.le_refl _), map_enc]; rfl
        · rw [heap_grow_old _ _ (by rw [size_putStr]; exact hk)]
          exact putStr_other fun e => hne (by rw [e]; rfl)
theorem compStr_sub {xs : List ByteArray} {s : ByteArray} (h : s ∈ compStr xs) : s ∈ xs := by
  unfold compStr Lib.compact Lib.compactUpTo at h
  simp only [List.mem_map, List.mem_filter, List.mem_range] at h
  obtain ⟨l, ⟨j, ⟨hj, _⟩, rfl⟩, rfl⟩ := h
  have hj' : j < xs.length := by simpa using hj
  have e : (xs.map toL).toArray[j]! = toL xs[j] := by
    rw [getElem!_pos _ j (by simpa using hj')]; simp
  rw [e, unL_toL]
  exact List.getElem_mem hj'
theorem compStr_t (xs : List ByteArray) (hl : xs.length ≤ 1048576) (d : Bool) :
    AT Try.prog 135 [.one (.own 0)] [(0, some (.arr 9 strE xs d))] (.one (.own 1)) [(1, some (.arr 9 strE (compStr xs) d))] :=
  AT.row1 ⟨_, _, Try.func135, rfl, rfl⟩ fun w v vs cells bs g L ha m hown hF h1 hb => by
    match vs, ha with
    | [], ha =>
      obtain ⟨rfl, rfl, hsz⟩ := strFR hF
      rcases hown.2 with ⟨rfl, h0⟩ | ⟨gb, cap, cur, rfl, _, hg, hle, hcap, hcs, htk⟩
      · have e0 : xs = [] := List.eq_nil_of_length_eq_zero h0
        subst e0
        refine (Go.Proofs.Try.slices_Compact_string_empty none 0 w).mono ?_
        rintro en w' ⟨rfl, rfl⟩
        exact ⟨_, [], rfl, ⟨by simp [compStr, Lib.compact, Lib.compactUpTo], .inl ⟨rfl, by simp [compStr, Lib.compact, Lib.compactUpTo]⟩⟩, ⟨rfl, rfl, rfl, Nat.le_refl _, fun k _ _ => rfl⟩, fun b hb => (by cases hb), [], by simp [compStr, Lib.compact, Lib.compactUpTo, FR], fun _ => List.nodup_nil, fun b hb => (by cases hb)⟩
      · have hgl : gb < w.heap.size := (Array.getElem?_eq_some_iff.1 hg).1
        have hs1 : strE.size = 1 := rfl
        rw [hs1, Nat.mul_one] at hcs htk
        have hH := str_holds hg htk
        have hc := Go.Proofs.Try.slices_Compact_string gb 0 cap (xs.map toL) w hH (by rw [List.length_map]; omega) (by rw [List.length_map]; exact hle)
        rw [List.length_map] at hc
        refine Calls.mono hc ?_
        rintro en w' ⟨rfl, q, rfl⟩
        have hlc : (Lib.compact (xs.map toL)).length ≤ xs.length := by
          have := Lib.compact_length_le (xs.map toL)
          simpa using this
        have hl2 : (compStr xs).length = (Lib.compact (xs.map toL)).length := by simp [compStr]
        have hln : (Lib.compact (xs.map toL) ++ List.replicate (xs.length - (Lib.compact (xs.map toL)).length) ([] : List UInt8)).length = xs.length := by
          rw [List.length_append, List.length_replicate]; omega
        refine ⟨_, (compStr xs).map Value.string, rfl, ⟨by rw [hl2]; simp [hl2, hs1], .inr ⟨gb, cap, putCells encStr 0 (Lib.compact (xs.map toL) ++ List.replicate (xs.length - (Lib.compact (xs.map toL)).length) ([] : List UInt8)).toArray cur, by rw [hl2], Nat.zero_le _, putStr_heap hg, by rw [hl2]; omega, hcap, by simpa [putCells, hs1] using hcs, ?_⟩⟩, ⟨rfl, rfl, rfl, by rw [size_putStr]; exact Nat.le_refl _, fun k hk hne => putStr_other fun e => hne (by rw [e]; rfl)⟩, fun b hb => .inl hb, [], strFR' fun s hs => hsz s (compStr_sub hs), fun _ => List.nodup_nil, fun b hb => (by cases hb)⟩
        rw [hs1, Nat.mul_one, hl2, putStr_take (by rw [hln]; exact hlc) (by rw [hln]; omega), List.take_left' rfl, map_enc]; rfl
end Go.Proofs.Ytkemjhlbokldhaa

/- RelPick, RelDrop in plain words. -/
namespace Go.Proofs.Ytkemjhlbokldhaa
open Go.RowKit
set_option linter.unusedVariables false

theorem GoodTo.len {rows : List (List Val)} {ar : Int} {k j : Nat} (h : GoodTo rows ar k) (hj : j < rows.length) (hjk : j < k) : (rows[j].length : Int) = ar := by
  have := h j hj hjk
  cases j with
  | zero => simp only [rowAt, Bool.and_eq_true, beq_iff_eq] at this; exact this.2
  | succ j => simp only [rowAt, Bool.and_eq_true, beq_iff_eq] at this; exact this.1.2
end Go.Proofs.Ytkemjhlbokldhaa

/- A row put into a relation, or taken out, in plain words. -/
namespace Go.Proofs.Ytkemjhlbokldhaa
open Go.RowKit
set_option linter.unusedVariables false
set_option linter.unusedSimpArgs false

def insAt (rows : List (List Val)) (row : List Val) : List (List Val) := rows.take (pos rows row) ++ [row] ++ rows.drop (pos rows row)
def putRow (rows : List (List Val)) (row : List Val) : List (List Val) := if hasRow rows row = true then rows else insAt rows row
/-! ### RelDrop -/
/-! ### RelAdd -/
end Go.Proofs.Ytkemjhlbokldhaa

/- Rows in order, each once: in plain words. -/
namespace Go.Proofs.Ytkemjhlbokldhaa
open Go.RowKit
set_option linter.unusedVariables false
set_option linter.unusedSimpArgs false

theorem pw_ext {α : Type} {R : α → α → Prop} (asym : ∀ x y, R x y → ¬ R y x) : ∀ {a b : List α}, a.Pairwise R → b.Pairwise R → (∀ x, x ∈ a ↔ x ∈ b) → a = b
  | [], [], _, _, _ => rfl
  | [], y :: ys, _, _, h => absurd ((h y).2 List.mem_cons_self) (by simp)
  | x :: xs, [], _, _, h => absurd ((h x).1 List.mem_cons_self) (by simp)
  | x :: xs, y :: ys, ha, hb, h => by
    obtain ⟨h1, h2⟩ := List.pairwise_cons.1 ha
    obtain ⟨g1, g2⟩ := List.pairwise_cons.1 hb
    have e : x = y := by
      rcases List.mem_cons.1 ((h x).1 List.mem_cons_self) with e | e
      · exact e
      · rcases List.mem_cons.1 ((h y).2 List.mem_cons_self) with e2 | e2
        · exact e2.symm
        · exact absurd (g1 x e) (asym _ _ (h1 y e2))
    subst e
    congr 1
    refine pw_ext asym h2 g2 fun z => ⟨fun hz => ?_, fun hz => ?_⟩
    · rcases List.mem_cons.1 ((h z).1 (List.mem_cons_of_mem _ hz)) with e | e
      · subst e; exact absurd (h1 z hz) (asym _ _ (h1 z hz))
      · exact e
    · rcases List.mem_cons.1 ((h z).2 (List.mem_cons_of_mem _ hz)) with e | e
      · subst e; exact absurd (g1 z hz) (asym _ _ (g1 z hz))
      · exact e
theorem Sorted.nil : Sorted [] := ⟨fun j hj => absurd hj (by simp), fun i j hi => absurd hi (by simp)⟩
/-! ### Steps of the compaction -/
/-! ### relOf -/
/-! ### RelUnion -/
end Go.Proofs.Ytkemjhlbokldhaa

/- The variables of a rule, in plain words: names put in one after the other, or sorted and each kept once. -/
namespace Go.Proofs.Ytkemjhlbokldhaa
open Go.RowKit
set_option linter.unusedVariables false
set_option linter.unusedSimpArgs false

def nlt (a b : ByteArray) : Prop := Op.bytesLess a.toList b.toList = true
theorem nlt_iff {a b : ByteArray} : nlt a b ↔ Lib.compareBytes a.toList b.toList < 0 := by unfold nlt; rw [bytesLess_cmp]; simp
theorem nmlt_trans {a b c : ByteArray} (h : nlt a b) (h2 : nlt b c) : nlt a c := nlt_iff.2 (compareBytes_trans (nlt_iff.1 h) (nlt_iff.1 h2))
theorem nlt_irr {a : ByteArray} (h : nlt a a) : False := by
  have := nlt_iff.1 h
  rw [compareBytes_self] at this; omega
theorem texts_eq {a b : ByteArray} (h : a.data.toList = b.data.toList) : a = b := ByteArray.ext (Array.ext' h)
theorem name_eq {a b : ByteArray} : (a == b) = true ↔ a = b := by
  constructor
  · intro h
    rw [beq_toListBytes, ByteArray.toList_eq, ByteArray.toList_eq] at h
    exact texts_eq (by simpa using h)
  · intro h; subst h; rw [beq_toListBytes]; simp
theorem nlt_tri {a b : ByteArray} (h : ¬ nlt a b) (h2 : ¬ nlt b a) : a = b := by
  rw [nlt_iff] at h h2
  have h3 := compareBytes_neg a.toList b.toList
  have h4 : Lib.compareBytes a.toList b.toList = 0 := by omega
  have h5 := compareBytes_eq h4
  rw [ByteArray.toList_eq, ByteArray.toList_eq] at h5
  exact texts_eq h5
theorem termE_nofp : ∀ w cs (y : Termt) b, termE.rep w cs y b → b = [] := fun w cs y b h => by
  have h := Term_rep.1 h
  first | exact h.2.2.2.2 | exact h.2.2.2.2.2 | exact h.2.2.2 | exact h.2.2
theorem nms_asym (x y : ByteArray) (h : nlt x y) : ¬ nlt y x := fun q => nlt_irr (nmlt_trans h q)
def vnames (l : List Termt) : List ByteArray := (l.filter fun t => !(t.var == (⟨#[]⟩ : ByteArray))).map Termt.var
theorem vnames_app {a b : List Termt} : vnames (a ++ b) = vnames a ++ vnames b := by simp [vnames]
theorem vnames_len {a : List Termt} : (vnames a).length ≤ a.length := by simp only [vnames, List.length_map]; exact List.length_filter_le _ _
theorem vn_yes {l : List Termt} {k : Nat} (hk : k < l.length) (h : (l[k].var == (⟨#[]⟩ : ByteArray)) = false) : vnames (l.take k) ++ [l[k].var] = vnames (l.take (k + 1)) := by
  rw [List.take_succ_eq_append_getElem hk, vnames_app]; simp [vnames, h]
theorem vn_no {l : List Termt} {k : Nat} (hk : k < l.length) (h : (l[k].var == (⟨#[]⟩ : ByteArray)) = true) : vnames (l.take k) = vnames (l.take (k + 1)) := by
  rw [List.take_succ_eq_append_getElem hk, vnames_app]; simp [vnames, h]
/-! ### One name put in -/
def insS : List ByteArray → ByteArray → List ByteArray
  | [], s => [s]
  | x :: r, s => if Op.bytesLess s.toList x.toList = true then s :: x :: r else x :: insS r s
def putS (l : List ByteArray) (s : ByteArray) : List ByteArray := if (l.any fun x => x == s) = true then l else insS l s
def stS (s : ByteArray) (l : List ByteArray) : Bool × List ByteArray := l.foldl (fun st x => if (!st.1 && Op.bytesLess s.toList x.toList) = true then (true, st.2 ++ [s] ++ [x]) else (st.1, st.2 ++ [x])) (false, [])
theorem stS_more {s : ByteArray} {l : List ByteArray} {k : Nat} (hk : k < l.length) : stS s (l.take (k + 1)) = if (!(stS s (l.take k)).1 && Op.bytesLess s.toList l[k].toList) = true then (true, (stS s (l.take k)).2 ++ [s] ++ [l[k]]) else ((stS s (l.take k)).1, (stS s (l.take k)).2 ++ [l[k]]) := by
  unfold stS
  rw [List.take_succ_eq_append_getElem hk, List.foldl_append]; rfl
theorem stS_done {s : ByteArray} {l : List ByteArray} {k : Nat} (hk : k < l.length) (h : (stS s (l.take k)).1 = true) : stS s (l.take (k + 1)) = (true, (stS s (l.take k)).2 ++ [l[k]]) := by rw [stS_more hk, h]; simp
theorem stS_here {s : ByteArray} {l : List ByteArray} {k : Nat} (hk : k < l.length) (h : (stS s (l.take k)).1 = false) (h2 : Op.bytesLess s.toList l[k].toList = true) : stS s (l.take (k + 1)) = (true, (stS s (l.take k)).2 ++ [s] ++ [l[k]]) := by rw [stS_more hk, h, h2]; simp
theorem stS_no {s : ByteArray} {l : List ByteArray} {k : Nat} (hk : k < l.length) (h : (stS s (l.take k)).1 = false) (h2 : Op.bytesLess s.toList l[k].toList = false) : stS s (l.take (k + 1)) = (false, (stS s (l.take k)).2 ++ [l[k]]) := by rw [stS_more hk, h, h2]; simp
theorem stS_len {s : ByteArray} {l : List ByteArray} : ∀ {k : Nat}, k ≤ l.length → (stS s (l.take k)).2.length ≤ k + 1
  | 0, _ => by simp [stS]
  | k + 1, hk => by
    have key : ∀ j, j ≤ l.length → (stS s (l.take j)).2.length = j + (stS s (l.take j)).1.toNat := fun j => by
      induction j with
      | zero => intro _; simp [stS]
      | succ j ih =>
        intro hj
        have := ih (by omega)
        rw [stS_more (by omega)]
        split
        · rename_i h
          simp only [Bool.and_eq_true, Bool.not_eq_true'] at h
          rw [h.1] at this
          simp at this ⊢; omega
        · simp; omega
    have h1 := key (k + 1) hk
    have h2 := Bool.toNat_le (stS s (l.take (k + 1))).1
    omega
theorem stS_is (s : ByteArray) (l : List ByteArray) : insS l s = if (stS s l).1 = true then (stS s l).2 else (stS s l).2 ++ [s] := by
  have done : ∀ (l acc : List ByteArray), l.foldl (fun st x => if (!st.1 && Op.bytesLess s.toList x.toList) = true then (true, st.2 ++ [s] ++ [x]) else (st.1, st.2 ++ [x])) (true, acc) = ((true, acc ++ l) : Bool × List ByteArray) := fun l => by
    induction l with
    | nil => intro acc; simp
    | cons x l ih =>
      intro acc
      have := ih (acc ++ [x])
      rw [List.foldl_cons]
      simp only [Bool.not_true, Bool.false_and, Bool.false_eq_true, if_false]
      rw [this]; simp
  have key : ∀ (l acc : List ByteArray), acc ++ insS l s = if (l.foldl (fun st x => if (!st.1 && Op.bytesLess s.toList x.toList) = true then (true, st.2 ++ [s] ++ [x]) else (st.1, st.2 ++ [x])) ((false, acc) : Bool × List ByteArray)).1 = true then (l.foldl (fun st x => if (!st.1 && Op.bytesLess s.toList x.toList) = true then (true, st.2 ++ [s] ++ [x]) else (st.1, st.2 ++ [x])) ((false, acc) : Bool × List ByteArray)).2 else (l.foldl (fun st x => if (!st.1 && Op.bytesLess s.toList x.toList) = true then (true, st.2 ++ [s] ++ [x]) else (st.1, st.2 ++ [x])) ((false, acc) : Bool × List ByteArray)).2 ++ [s] := fun l => by
    induction l with
    | nil => intro acc; simp [insS]
    | cons x l ih =>
      intro acc
      rw [List.foldl_cons]
      cases h : Op.bytesLess s.toList x.toList
      · have := ih (acc ++ [x])
        simp only [Bool.not_false, Bool.true_and, Bool.false_eq_true, if_false, insS, h] at this ⊢
        rw [← this]; simp
      · simp only [Bool.not_false, Bool.true_and, if_true, insS, h]
        rw [done]; simp
  have := key l []
  simpa [stS] using this
theorem putS_end {s : ByteArray} {l : List ByteArray} {k : Nat} (hn : NoneTo (fun x => x == s) l k) (hk : l.length ≤ k) : putS l s = insS l s := if_neg (by
  simp only [List.any_eq_true, not_exists, not_and]
  intro x hx
  obtain ⟨j, hj, rfl⟩ := List.getElem_of_mem hx
  intro q
  have := hn j hj (by omega)
  simp only at this
  rw [q] at this; cases this)
theorem putS_has {s : ByteArray} {l : List ByteArray} {k : Nat} (hk : k < l.length) (h : (l[k] == s) = true) : putS l s = l := if_pos (List.any_eq_true.2 ⟨_, List.getElem_mem hk, h⟩)
theorem insS_len {l : List ByteArray} {s : ByteArray} : (insS l s).length = l.length + 1 := by
  induction l with
  | nil => rfl
  | cons x r ih => unfold insS; split <;> simp [ih]
theorem putS_len {l : List ByteArray} {s : ByteArray} : (putS l s).length ≤ l.length + 1 := by
  unfold putS; split
  · omega
  · rw [insS_len]; exact Nat.le_refl _
theorem putsS_len {xs : List ByteArray} : ∀ {l : List ByteArray}, (xs.foldl putS l).length ≤ l.length + xs.length := by
  induction xs with
  | nil => intro l; simp
  | cons x xs ih => intro l; have h1 := ih (l := putS l x); have h2 := putS_len (l := l) (s := x); simp only [List.foldl_cons, List.length_cons]; omega
theorem insS_mem {l : List ByteArray} {s x : ByteArray} : x ∈ insS l s ↔ x = s ∨ x ∈ l := by
  induction l with
  | nil => simp [insS]
  | cons y r ih =>
    unfold insS
    split
    · simp
    · simp only [List.mem_cons, ih]
      constructor
      · rintro (h | h | h)
        · exact .inr (.inl h)
        · exact .inl h
        · exact .inr (.inr h)
      · rintro (h | h | h)
        · exact .inr (.inl h)
        · exact .inl h
        · exact .inr (.inr h)
theorem insS_sorted {l : List ByteArray} {s : ByteArray} (h : l.Pairwise nlt) (hn : s ∉ l) : (insS l s).Pairwise nlt := by
  induction l with
  | nil => exact List.pairwise_singleton _ _
  | cons y r ih =>
    obtain ⟨h1, h2⟩ := List.pairwise_cons.1 h
    unfold insS
    split
    · rename_i hs
      refine List.pairwise_cons.2 ⟨fun z hz => ?_, h⟩
      rcases List.mem_cons.1 hz with rfl | hz
      · exact hs
      · exact nmlt_trans hs (h1 z hz)
    · rename_i hs
      refine List.pairwise_cons.2 ⟨fun z hz => ?_, ih h2 fun q => hn (List.mem_cons_of_mem _ q)⟩
      rcases insS_mem.1 hz with rfl | hz
      · exact Classical.byContradiction fun q => hn (by rw [nlt_tri hs q]; exact List.mem_cons_self)
      · exact h1 z hz
theorem puts_facts : ∀ (xs l : List ByteArray), l.Pairwise nlt → (xs.foldl putS l).Pairwise nlt ∧ ∀ x, x ∈ xs.foldl putS l ↔ x ∈ l ∨ x ∈ xs
  | [], l, h => ⟨h, fun x => by simp⟩
  | s :: xs, l, h => by
    have h0 : (putS l s).Pairwise nlt ∧ ∀ x, x ∈ putS l s ↔ x = s ∨ x ∈ l := by
      unfold putS
      split
      · rename_i hs
        obtain ⟨y, hy, e⟩ := List.any_eq_true.1 hs
        have e := name_eq.1 e
        subst e
        exact ⟨h, fun x => ⟨.inr, fun q => q.elim (fun e => by rw [e]; exact hy) id⟩⟩
      · rename_i hs
        refine ⟨insS_sorted h fun q => hs (List.any_eq_true.2 ⟨s, q, name_eq.2 rfl⟩), fun x => insS_mem⟩
    obtain ⟨g1, g2⟩ := puts_facts xs (putS l s) h0.1
    refine ⟨g1, fun x => ?_⟩
    rw [List.foldl_cons, g2, h0.2, List.mem_cons]
    constructor
    · rintro ((h | h) | h)
      · exact .inr (.inl h)
      · exact .inl h
      · exact .inr (.inr h)
    · rintro (h | h | h)
      · exact .inl (.inr h)
      · exact .inl (.inl h)
      · exact .inr h
/-! ### Sorted, and each once -/
theorem nlt_toL {a b : ByteArray} : nlt a b ↔ toL a < toL b := by
  unfold nlt toL
  rw [bytesLess_eq, ByteArray.toList_eq, ByteArray.toList_eq]; simp
theorem once_facts {A : List (List UInt8)} (hA : A.Pairwise fun x y => x ≤ y) : (Lib.compact A).Pairwise (fun x y => x < y) ∧ ∀ x, x ∈ Lib.compact A ↔ x ∈ A := by
  have at_ : ∀ j, j < A.length → (A.toArray)[j]! = A.getD j [] := fun j hj => by rw [getElem!_pos _ j (by simpa using hj)]; simp [List.getD, hj]
  have gd : ∀ j (h : j < A.length), A.getD j [] = A[j] := fun j h => by simp [List.getD, h]
  have le_lt : ∀ {x y : List UInt8}, x ≤ y → x ≠ y → x < y := fun {x y} h h2 => Classical.byContradiction fun q => h2 (by
    have := nlt_tri (a := unL x) (b := unL y) (fun q2 => q (by have := nlt_toL.1 q2; rwa [toL_unL, toL_unL] at this)) (fun q2 => List.not_lt.2 h (by have := nlt_toL.1 q2; rwa [toL_unL, toL_unL] at this))
    rw [← toL_unL x, ← toL_unL y, this])
  unfold Lib.compact Lib.compactUpTo
  constructor
  · rw [List.pairwise_map, List.pairwise_filter]
    refine List.Pairwise.imp_of_mem ?_ List.pairwise_lt_range
    intro i j hi hj hij h1 h2
    have hi := List.mem_range.1 hi
    have hj := List.mem_range.1 hj
    simp only [Lib.keeps, decide_eq_true_eq] at h2
    rw [at_ i hi, at_ j hj]
    rw [at_ j hj, at_ (j - 1) (by omega)] at h2
    have hne : A.getD j [] ≠ A.getD (j - 1) [] := h2.resolve_left (by omega)
    rw [gd _ hj, gd _ (show j - 1 < A.length by omega)] at hne
    rw [gd _ hi, gd _ hj]
    have q1 : A[j - 1] < A[j] := le_lt (List.pairwise_iff_getElem.1 hA (j - 1) j (by omega) hj (by omega)) (Ne.symm hne)
    by_cases e : i = j - 1
    · subst e; exact q1
    · exact List.lt_of_le_of_lt (List.pairwise_iff_getElem.1 hA i (j - 1) hi (by omega) (by omega)) q1
  · intro x
    simp only [List.mem_map, List.mem_filter, List.mem_range]
    constructor
    · rintro ⟨j, ⟨hj, _⟩, rfl⟩
      rw [at_ j hj, gd j hj]; exact List.getElem_mem hj
    · intro hx
      obtain ⟨j, hj, rfl⟩ := List.getElem_of_mem hx
      have key : ∀ j (hj : j < A.length), ∃ i, (i < A.length ∧ Lib.keeps A.toArray i = true) ∧ A.toArray[i]! = A[j] := fun j => by
        induction j with
        | zero => intro hj; exact ⟨0, ⟨hj, by simp [Lib.keeps]⟩, by rw [at_ 0 hj, gd 0 hj]⟩
        | succ j ih =>
          intro hj
          by_cases e : A[j + 1] = A[j]
          · obtain ⟨i, h1, h2⟩ := ih (by omega)
            exact ⟨i, h1, by rw [h2, e]⟩
          · refine ⟨j + 1, ⟨hj, ?_⟩, by rw [at_ _ hj, gd _ hj]⟩
            simp only [Lib.keeps, decide_eq_true_eq]
            right
            rw [at_ _ hj, gd _ hj, show j + 1 - 1 = j by omega, at_ j (by omega), gd j (by omega)]
            exact e
      exact key j hj
theorem comp_facts (xs : List ByteArray) : (compStr (sortStr xs)).Pairwise nlt ∧ ∀ x, x ∈ compStr (sortStr xs) ↔ x ∈ xs := by
  have e : (sortStr xs).map toL = (xs.map toL).mergeSort fun x y => decide (x ≤ y) := by
    unfold sortStr
    rw [List.map_map]
    have : (toL ∘ unL) = id := funext fun l => toL_unL l
    rw [this, List.map_id]
  have hA : ((xs.map toL).mergeSort fun x y => decide (x ≤ y)).Pairwise fun x y => x ≤ y := by
    have := List.pairwise_mergeSort (le := fun x y : List UInt8 => decide (x ≤ y)) (fun a b c h1 h2 => by
      simp only [decide_eq_true_eq] at *; exact List.le_trans h1 h2) (fun a b => by
      simp only [Bool.or_eq_true, decide_eq_true_eq]; exact List.le_total a b) (xs.map toL)
    exact this.imp fun h => by simpa using h
  obtain ⟨h1, h2⟩ := once_facts hA
  unfold compStr
  rw [e]
  constructor
  · rw [List.pairwise_map]
    exact h1.imp fun h => nlt_toL.2 (by rw [toL_unL, toL_unL]; exact h)
  · intro x
    simp only [List.mem_map, h2, List.mem_mergeSort]
    constructor
    · rintro ⟨l, ⟨t, ht, rfl⟩, rfl⟩
      rw [unL_toL]; exact ht
    · exact fun h => ⟨toL x, ⟨x, h, rfl⟩, unL_toL x⟩
/-! ### A rule's variables -/
def termsOfL (l : Litt) : List Termt := if l.kind = 3 then [l.a, l.b] else l.atom.args
def implT (r : Rulet) (k : Nat) : List Termt := r.head.args ++ (r.body.take k).flatMap termsOfL
def specT (r : Rulet) (k : Nat) : List Termt := r.head.args ++ (r.body.take k).flatMap fun l => l.atom.args ++ [l.a, l.b]
def varsOf (r : Rulet) : List ByteArray := if ruleB r = true then compStr (sortStr (vnames (implT r r.body.length))) else []
theorem implT_more {r : Rulet} {k : Nat} (hk : k < r.body.length) : implT r k ++ termsOfL r.body[k] = implT r (k + 1) := by
  unfold implT
  rw [List.take_succ_eq_append_getElem hk]; simp only [List.flatMap_append, List.flatMap_cons, List.flatMap_nil, List.append_nil, List.append_assoc]
theorem implT_all {r : Rulet} {k : Nat} (hk : r.body.length ≤ k) : implT r k = implT r r.body.length := by
  unfold implT
  rw [List.take_of_length_le hk, List.take_length]
theorem specT_more {r : Rulet} {k : Nat} (hk : k < r.body.length) : (vnames (r.body[k].atom.args)  ++ vnames [r.body[k].a, r.body[k].b]).foldl putS ((vnames (specT r k)).foldl putS []) = (vnames (specT r (k + 1))).foldl putS [] := by
  have : specT r (k + 1) = specT r k ++ (r.body[k].atom.args ++ [r.body[k].a, r.body[k].b]) := by
    unfold specT
    rw [List.take_succ_eq_append_getElem hk]; simp only [List.flatMap_append, List.flatMap_cons, List.flatMap_nil, List.append_nil, List.append_assoc]
  rw [this, vnames_app, vnames_app]
  exact List.foldl_append.symm
theorem rule_parts {r : Rulet} (h : ruleB r = true) : r.head.args.length ≤ 6 ∧ r.body.length ≤ 8 ∧ ∀ l ∈ r.body, litB l = true := by
  simp only [ruleB, Bool.and_eq_true, decide_eq_true_eq, List.all_eq_true, atomB] at h
  exact ⟨h.2.1.2.1, h.2.2.1, h.2.2.2⟩
theorem lit_vars {l : Litt} (h : litB l = true) : (∀ x, x ∈ vnames (termsOfL l) ↔ x ∈ vnames (l.atom.args ++ [l.a, l.b])) ∧ l.atom.args.length ≤ 6 ∧ (termsOfL l).length ≤ 6 := by
  unfold litB at h
  split at h
  · rename_i hk
    have hk3 : ¬ l.kind = 3 := by omega
    simp only [Bool.and_eq_true, sameTerm, atomB, decide_eq_true_eq] at h
    have ea : l.a.var = ⟨#[]⟩ := name_eq.1 h.2.2.1.1
    have eb : l.b.var = ⟨#[]⟩ := name_eq.1 h.2.2.2.1
    have e1 : vnames [l.a, l.b] = [] := by simp [vnames, ea, eb, show ((⟨#[]⟩ : ByteArray) == ⟨#[]⟩) = true from name_eq.2 rfl]
    refine ⟨fun x => by rw [vnames_app, e1, List.append_nil]; unfold termsOfL; rw [if_neg hk3], h.1.2.1, by unfold termsOfL; rw [if_neg hk3]; exact h.1.2.1⟩
  · split at h
    · rename_i hk
      simp only [Bool.and_eq_true, decide_eq_true_eq] at h
      have e1 : l.atom.args = [] := List.eq_nil_of_length_eq_zero h.2.2.1
      refine ⟨fun x => by rw [e1, List.nil_append]; unfold termsOfL; rw [if_pos hk], by rw [e1]; simp, by unfold termsOfL; rw [if_pos hk]; simp⟩
    · cases h
theorem flat_le {α β : Type} {f : α → List β} {M : Nat} : ∀ {l : List α}, (∀ x ∈ l, (f x).length ≤ M) → (l.flatMap f).length ≤ M * l.length
  | [], _ => by simp
  | x :: l, h => by
    have h1 := flat_le (f := f) (M := M) (l := l) fun y hy => h y (List.mem_cons_of_mem _ hy)
    have h2 := h x List.mem_cons_self
    rw [List.flatMap_cons, List.length_append, List.length_cons, Nat.mul_add]; omega
theorem implT_len {r : Rulet} (h : ruleB r = true) (k : Nat) : (implT r k).length ≤ 54 := by
  obtain ⟨h1, h2, h3⟩ := rule_parts h
  have := flat_le (f := termsOfL) (M := 6) (l := r.body.take k) fun l hl => (lit_vars (h3 l (List.mem_of_mem_take hl))).2.2
  simp only [implT, List.length_append, List.length_take] at *; omega
theorem specT_len {r : Rulet} (h : ruleB r = true) (k : Nat) : (specT r k).length ≤ 70 := by
  obtain ⟨h1, h2, h3⟩ := rule_parts h
  have := flat_le (f := fun l : Litt => l.atom.args ++ [l.a, l.b]) (M := 8) (l := r.body.take k) fun l hl => by
    have := (lit_vars (h3 l (List.mem_of_mem_take hl))).2.1
    simp; omega
  simp only [specT, List.length_append, List.length_take] at *; omega
theorem spec_len {r : Rulet} (h : ruleB r = true) (k : Nat) : ((vnames (specT r k)).foldl putS []).length ≤ 70 := by
  have h1 := specT_len h k
  have h2 := vnames_len (a := specT r k)
  have h3 := putsS_len (xs := vnames (specT r k)) (l := [])
  simp at h3; omega
/-- Both ways give the same names. -/
theorem vars_eq {r : Rulet} (h : ruleB r = true) {k : Nat} (hk : r.body.length ≤ k) : (vnames (specT r k)).foldl putS [] = varsOf r := by
  obtain ⟨h1, h2, h3⟩ := rule_parts h
  obtain ⟨a1, a2⟩ := puts_facts (vnames (specT r k)) [] List.Pairwise.nil
  obtain ⟨b1, b2⟩ := comp_facts (vnames (implT r r.body.length))
  unfold varsOf
  rw [if_pos h]
  refine pw_ext nms_asym a1 b1 fun x => ?_
  rw [a2, b2]
  unfold specT implT
  rw [List.take_of_length_le hk, List.take_length, vnames_app, vnames_app]
  simp only [List.not_mem_nil, false_or, List.mem_append]
  have key : ∀ (l : List Litt), (∀ y ∈ l, litB y = true) → (x ∈ vnames (l.flatMap fun l => l.atom.args ++ [l.a, l.b]) ↔ x ∈ vnames (l.flatMap termsOfL)) := fun l => by
    induction l with
    | nil => intro _; simp
    | cons y l ih =>
      intro hl
      rw [List.flatMap_cons, List.flatMap_cons, vnames_app (a := y.atom.args ++ [y.a, y.b]), vnames_app (a := termsOfL y), List.mem_append, List.mem_append, ih fun z hz => hl z (List.mem_cons_of_mem _ hz), (lit_vars (hl y List.mem_cons_self)).1 x]
  rw [key r.body h3]
theorem varsOf_no {r : Rulet} (h : ruleB r = false) : varsOf r = [] := if_neg (by rw [h]; simp)
theorem varsOf_yes {r : Rulet} (h : ruleB r = true) : varsOf r = compStr (sortStr (vnames (implT r r.body.length))) := if_pos h
theorem sortStr_len {xs : List ByteArray} : (sortStr xs).length = xs.length := by simp [sortStr]
theorem compStr_len {xs : List ByteArray} : (compStr xs).length ≤ xs.length := by
  unfold compStr Lib.compact Lib.compactUpTo
  simp only [List.length_map]
  refine Nat.le_trans (List.length_filter_le _ _) ?_
  simp
theorem varsOf_len (r : Rulet) : (varsOf r).length ≤ 54 := by
  cases h : ruleB r
  · rw [varsOf_no h]; simp
  · rw [varsOf_yes h]
    have h1 := compStr_len (xs := sortStr (vnames (implT r r.body.length)))
    have h2 := vnames_len (a := implT r r.body.length)
    have h3 := implT_len h r.body.length
    rw [sortStr_len] at h1; omega
end Go.Proofs.Ytkemjhlbokldhaa

/- The abstract walk: a field of an element of an own array written anew. -/
namespace Go.Proofs.Ytkemjhlbokldhaa
open Go.RowKit
set_option linter.unusedVariables false
section ops
variable {P : Program} {N : Nat} {s : St} {ty : TypeId} {pos : String} {after : Array Edge} {gd : Option (Nat × Bool)}
end ops
end Go.Proofs.Ytkemjhlbokldhaa

/- Texts and bytes in the abstract walk: the bytes of a text, appended. -/
namespace Go.Proofs.Ytkemjhlbokldhaa
open Go.RowKit
set_option linter.unusedVariables false

theorem u8_fine (b : UInt8) : (Lit.int .u8 (b.toNat : Int)).wf = true := by
  have := b.toNat_lt
  simp only [Lit.wf, Bool.and_eq_true, decide_eq_true_eq]
  have h1 : IntKind.u8.min = 0 := rfl
  have h2 : IntKind.u8.max = 255 := rfl
  rw [h1, h2]; omega
theorem FR.bytes {w : World} : ∀ (l : List UInt8), FR w (l.map fun b => Value.int .u8 b.toNat) ((l.map fun b => (b.toNat : Int)).flatMap fun n => [Cell.c (.int .u8 n)]) []
  | [] => rfl
  | b :: l => ⟨[], [], rfl, ⟨rfl, u8_fine b, rfl⟩, FR.bytes l⟩
section ops
variable {P : Program} {N : Nat} {s : St} {d : Nat} {ty : TypeId} {pos : String} {after : Array Edge} {gd : Option (Nat × Bool)}
/-- New blocks that nobody writes. -/
def Gh.more (g : Gh) (w w' : World) : Gh := { g with I := fun b => g.I b ∨ (w.heap.size ≤ b ∧ b < w'.heap.size) }
theorem MemR.grow {g : Gh} {l : Locs} {w w' : World} (m : MemR g l w) (hk : ∀ b, b < w.heap.size → w'.heap[b]? = w.heap[b]?) (hs : w.heap.size ≤ w'.heap.size) : MemR (g.more w w') l w' where
  ilt := fun b hb => hb.elim (fun h => Nat.lt_of_lt_of_le (m.ilt b h) hs) fun h => h.2
  box := fun k cs hl => by
    obtain ⟨vs, t, h1, h2, h3⟩ := m.box k cs hl
    have hlt : g.ρ k < w.heap.size := (Array.getElem?_eq_some_iff.1 h1).1
    refine ⟨vs, t, (hk _ hlt).trans h1, h2.mono fun a b _ hr => CellR.step (fun b hb => hk b (m.ilt b hb)) (fun _ h => .inl h) hs (fun _ _ => okK.same rfl rfl rfl) hr, fun h => h.elim h3 fun h => ?_⟩
    have h4 : w.heap.size ≤ g.ρ k := h.1
    omega
  arr := fun k α T e xs d hl => by
    rcases m.arr k α T e xs d hl with h | ⟨cap, vs, bss, h1, h2, h3, h4, h5, h6, h7, h8, h9⟩
    · exact .inl h
    · have hlt : g.ρ k < w.heap.size := (Array.getElem?_eq_some_iff.1 h4).1
      refine .inr ⟨cap, vs, bss, h1, h2, h3, (hk _ hlt).trans h4, h5, h6.keep (hk _ hlt) (fun b hb => hk b (m.ilt b (h7 b hb))) hs, fun b hb => .inl (h7 b hb), fun h => h.elim h8 fun h => ?_, h9⟩
      have h10 : w.heap.size ≤ g.ρ k := h.1
      omega
  dis := fun j k b b' h1 h2 h3 h4 h5 => m.dis j k b b' h1 h2 h3 (by cases b <;> exact h4) (by cases b' <;> exact h5)
  fr := fun k α T e xs hl => by
    obtain ⟨h1, h2⟩ := m.fr k α T e xs hl
    refine ⟨h1, fun b hb => ⟨.inl (h2 b hb).1, ?_⟩⟩
    obtain ⟨c, t, h⟩ := (h2 b hb).2
    exact ⟨c, t, (hk b (m.ilt b (h2 b hb).1)).trans h⟩
  fd := m.fd
end ops
end Go.Proofs.Ytkemjhlbokldhaa

/- Parts of slices and of texts; texts made of bytes; own arrays that are given up to be read alone. -/
namespace Go.Proofs.Ytkemjhlbokldhaa
open Go.RowKit
set_option linter.unusedVariables false

/-- A bound of a part: an operand, or the usual one. -/
inductive OB (t : Tmps) (dv : Nat) : Option Operand → List (Nat × AVal) → Nat → Prop
  | no : OB t dv none [] dv
  | yes {o : Operand} {k : IntKind} {v : Int} {l : Nat} (h : evo t o = some (.one (.c (.int k v)))) (hv : v = (l : Int)) : OB t dv (some o) (rdo o (.one (.c (.int k v)))) l
section ops
variable {P : Program} {N : Nat} {s : St} {d : Nat} {ty : TypeId} {pos : String} {after : Array Edge} {gd : Option (Nat × Bool)}
end ops
/-! ### An own array is given up: nobody writes it any more -/
def Gh.shut (g : Gh) (k : Nat) : Gh := { g with I := fun b => g.I b ∨ (g.hd k ≠ .slice none 0 0 ∧ b = g.ρ k) }
section shut
variable {g : Gh} {l : Locs} {w : World}
theorem shut_mem (m : MemR g l w) {k : Nat} {α : Type} {T : TypeId} {e : Enc α} {xs : List α} {dp : Bool} (hk : lkl l k = some (.arr T e xs dp)) :
    MemR (g.shut k) ((k, none) :: l) w ∧ (∀ K, Step K g l w (g.shut k) ((k, none) :: l) w) ∧ CellR (g.shut k) ((k, none) :: l) w (g.hd k) (.sl e xs) ∧ ∀ j, okK g l (g.shut k) ((k, none) :: l) j := by
  have live : g.hd k ≠ .slice none 0 0 → liv g k (.arr T e xs dp) := fun h => h
  have hlt : ∀ b, (g.shut k).I b → b < w.heap.size := fun b hb => hb.elim (m.ilt b) fun h => by rw [h.2]; exact m.lt hk (live h.1)
  have hu : ∀ j, j ≠ k → lkl ((k, none) :: l) j = none ∨ Untouched g l w (g.shut k) ((k, none) :: l) w j := fun j hj =>
    .inr ⟨lkl_cons_ne (Ne.symm hj), rfl, rfl, rfl, fun b hb hl => ⟨rfl, fun h => h.elim (m.notI hb hl) fun h => m.dis j k b _ hj hb hk hl (live h.1) h.2⟩⟩
  have ok : ∀ j, okK g l (g.shut k) ((k, none) :: l) j := fun j => by
    by_cases e : j = k
    · subst e; exact okK.gone lkl_cons_self
    · exact okK.same (lkl_cons_ne (Ne.symm e)) rfl rfl
  have no : ∀ {b : Blk}, lkl ((k, none) :: l) k = some b → False := fun h => by rw [lkl_cons_self] at h; cases h
  refine ⟨m.set1 k (fun _ _ => rfl) (fun _ h => .inl h) (Nat.le_refl _) hlt hu (.inl (ok k)) (fun cs h => (no h).elim) (fun α T e xs d h => (no h).elim) (fun j b b' _ _ _ h => (no h).elim) (fun α T e xs h => (no h).elim) (fun j α β T U e f xs ys _ _ _ h => (no h).elim), fun K => ?_, ?_, ok⟩
  · refine ⟨rfl, rfl, rfl, Nat.le_refl _, fun _ _ _ => rfl, fun _ h => .inl h, fun b h => h.elim .inl fun h => .inr (.inr ⟨k, _, hk, .inl ⟨live h.1, h.2⟩⟩), own_set1 k hu (fun b h => (no h).elim) (fun α T e xs h => (no h).elim), fun j hj hn => ?_⟩
    refine ⟨?_, ok j, fun cs hc => ?_⟩
    · by_cases e : k = j
      · subst e; rw [lk_cons_self]; simp
      · rw [lk_cons_ne e]; exact hn
    · by_cases e : k = j
      · subst e; rw [hk] at hc; cases hc
      · exact ⟨cs, by rw [lkl_cons_ne e]; exact hc⟩
  · obtain ⟨a, n, cap, bs, h1, h2, h3, _⟩ := (m.arr k _ _ _ _ _ hk).slice
    exact ⟨a, n, cap, bs, h1, h2, fun b hb => h3 b hb⟩
variable {P : Program} {N : Nat} {K : List Nat} {Kn : St → Prop} {Q : Exit → St → Prop} {s : St}
theorem AW_shut {α : Type} {T : TypeId} {e : Enc α} {xs : List α} {dp : Bool} {c : Code} (k t : Nat) (ht : lk s.t t = some (.one (.own k))) (hk : lkl s.l k = some (.arr T e xs dp))
    (h : AW P N K c Kn Q ⟨(t, .one (.sl e xs)) :: s.t, (k, none) :: s.l⟩) : AW P N K c Kn Q s := fun g a w r => by
  obtain ⟨m1, st1, c1, ok1⟩ := shut_mem r.mem hk
  have r1 := r.next0 (g' := g.shut k) (l' := (k, none) :: s.l) (w' := w) (fun _ _ => rfl) (fun _ h => .inl h) (Nat.le_refl _) (fun j _ => ok1 j) m1
  have hv : a.tmps.getD t undef = g.hd k := (r.tmp t _ ht : CellR g s.l w _ (.own k)) _ _ _ _ _ hk
  have r2 : Rep N (g.shut k) ⟨(t, .one (.sl e xs)) :: s.t, (k, none) :: s.l⟩ a w := ⟨r1.size, r1.defers, fun j x hj => by
    by_cases hjt : t = j
    · subst hjt
      rw [lk_cons_self] at hj; cases hj
      rw [hv]; exact c1
    · rw [lk_cons_ne hjt] at hj
      exact r1.tmp j x hj, m1⟩
  exact Go.wp_mono (h _ a w r2) fun e a1 w1 h1 => h1.trans r.mem m1 (st1 K)
end shut
end Go.Proofs.Ytkemjhlbokldhaa

/- Results that nobody writes any more; arrays whose elements are shared; appending and clearing in regions. -/
namespace Go.Proofs.Ytkemjhlbokldhaa
open Go.RowKit
set_option linter.unusedVariables false

/-! ### An array's elements are no longer its own alone -/
section
variable {g : Gh} {l : Locs} {w : World}
variable {P : Program} {N : Nat} {K : List Nat} {Kn : St → Prop} {Q : Exit → St → Prop} {s : St}
end

/-! ### A result that is given up to be read alone -/
def frzC {α : Type} (e : Enc α) (xs : List α) : Cell → Cell
  | .own _ => .sl e xs
  | c => c
def AVal.frz1 {α : Type} (e : Enc α) (xs : List α) : AVal → AVal
  | .one x => .one (frzC e xs x)
  | .agg xs' => .agg (xs'.map (frzC e xs))
  | .tup xs' => .tup xs'
def AVal.frz {α : Type} (e : Enc α) (xs : List α) : AVal → AVal
  | .tup xs' => .tup (xs'.map (AVal.frz1 e xs))
  | x => x.frz1 e xs
section
variable {g g' : Gh} {w : World} {α : Type} {T : TypeId} {e : Enc α} {xs : List α} {d : Bool}
theorem frzC_ok (hs : CellR g' [] w (g.hd 0) (.sl e xs)) {v : Value} {c : Cell} (hc : cleanC c = true) (hi : ∀ k ∈ c.ids, k = 0) (h : CellR g [(0, some (.arr T e xs d))] w v c) : CellR g' [] w v (frzC e xs c) := by
  cases c with
  | c u => exact h
  | own k =>
    have hk0 : k = 0 := hi k (by simp [Cell.ids])
    subst hk0
    have : v = g.hd 0 := h _ _ _ _ _ rfl
    rw [this]; exact hs
  | any => trivial
  | _ => cases hc
theorem frz1_ok (hs : CellR g' [] w (g.hd 0) (.sl e xs)) : ∀ {v : Value} {x : AVal}, cleanV x = true → (∀ k ∈ x.ids1, k = 0) → VR1 g [(0, some (.arr T e xs d))] w v x → VR1 g' [] w v (x.frz1 e xs)
  | v, .one c, hc, hi, h => frzC_ok hs hc hi h
  | v, .agg cs, hc, hi, ⟨vs, h1, h2⟩ => by
    refine ⟨vs, h1, ?_⟩
    clear h1
    have hc' : ∀ c ∈ cs, cleanC c = true := fun c hm => List.all_eq_true.1 hc c hm
    have hi' : ∀ c ∈ cs, ∀ k ∈ c.ids, k = 0 := fun c hm k hk => hi k (List.mem_flatMap.2 ⟨c, hm, hk⟩)
    clear hc hi
    induction cs generalizing vs with
    | nil => cases vs with | nil => trivial | cons _ _ => exact h2.elim
    | cons c cs ih =>
      cases vs with
      | nil => exact h2.elim
      | cons u us => exact ⟨frzC_ok hs (hc' c (by simp)) (hi' c (by simp)) h2.1, ih us h2.2 (fun c hm => hc' c (by simp [hm])) (fun c hm => hi' c (by simp [hm]))⟩
  | v, .tup _, _, _, h => h.elim
end
theorem AC.frz {P : Program} {f : FuncId} {args : List AVal} {res : AVal} {α : Type} {T : TypeId} {e : Enc α} {xs : List α} {d : Bool} (h : AC P f args [] res [(0, some (.arr T e xs d))]) (hc : cleanV res = true) (hi : ∀ k ∈ res.ids, k = 0) : AC P f args [] (res.frz e xs) [] := by
  refine ⟨h.fn, fun g w cargs m ha => (h.run g w cargs m ha).mono ?_⟩
  rintro r w' ⟨v, g1, rfl, m1, hv, hs⟩
  have hk : lkl [(0, some (Blk.arr T e xs d))] 0 = some (.arr T e xs d) := rfl
  obtain ⟨m2, s2, c2, _⟩ := shut_mem m1 hk
  have T1 := Step.trans m m1 hs (s2 [])
  have no : ∀ k b, lkl [] k ≠ some b := fun k b h => by simp [lkl, lk] at h
  have m3 : MemR (g1.shut 0) [] w' := ⟨m2.ilt, fun k cs h => (no _ _ h).elim, fun k β T e2 ys d h => (no _ _ h).elim, fun j k b b' _ h => (no _ _ h).elim, fun k β T e2 ys h => (no _ _ h).elim, fun j k β γ T U e2 e3 ys zs _ h => (no _ _ h).elim⟩
  have hsl : CellR (g1.shut 0) [] w' (g1.hd 0) (.sl e xs) := c2
  refine ⟨v, g1.shut 0, rfl, m3, ?_, ⟨T1.os, T1.tape, T1.output, T1.size, T1.keep, T1.imm, T1.imm', fun b hb => ?_, fun k hk => by cases hk⟩⟩
  · cases res with
    | one x => exact frz1_ok (d := d) (T := T) hsl hc (fun k hk => hi k hk) hv
    | agg cs => exact frz1_ok (x := .agg cs) (d := d) (T := T) hsl hc (fun k hk => hi k hk) hv
    | tup ys =>
      obtain ⟨vs, h1, h2⟩ := hv
      refine ⟨vs, h1, ?_⟩
      clear h1
      have hc' : ∀ y ∈ ys, cleanV y = true := fun y hm => by
        have := List.all_eq_true.1 hc y hm
        cases y with
        | one _ => exact this
        | agg _ => exact this
        | tup _ => cases this
      have hi' : ∀ y ∈ ys, ∀ k ∈ y.ids1, k = 0 := fun y hm k hk => hi k (List.mem_flatMap.2 ⟨y, hm, hk⟩)
      clear hc hi h ha
      induction ys generalizing vs with
      | nil => cases vs with | nil => trivial | cons _ _ => exact h2.elim
      | cons y ys ih =>
        cases vs with
        | nil => exact h2.elim
        | cons u us => exact ⟨frz1_ok (d := d) (T := T) hsl (hc' y (by simp)) (hi' y (by simp)) h2.1, ih us h2.2 (fun y hm => hc' y (by simp [hm])) (fun y hm => hi' y (by simp [hm]))⟩
  · obtain ⟨k, blk, h1, _⟩ := hb
    exact (no _ _ h1).elim

/-! ### append and clear, where their runs are known by equations -/
end Go.Proofs.Ytkemjhlbokldhaa

/- Numbers copied into a part of an own array; nil ars an array that is taken; numbers in memory are not too great. -/
namespace Go.Proofs.Ytkemjhlbokldhaa
open Go.RowKit
set_option linter.unusedVariables false
set_option linter.unusedSimpArgs false

section ops
variable {P : Program} {N : Nat} {s : St} {d : Nat} {ty : TypeId} {pos : String} {after : Array Edge} {gd : Option (Nat × Bool)}
end ops
/-- A contract that takes an array takes nil, too. -/
theorem AT.nil {P : Program} {f : FuncId} {rest : List AVal} {α β : Type} {T U : TypeId} {e : Enc α} {e' : Enc β} {ys : List β} {d' : Bool}
    (h : AT P f (.one (.own 0) :: rest) [(0, some (.arr T e [] true))] (.one (.own 1)) [(1, some (.arr U e' ys d'))]) (hrest : rest.flatMap AVal.ids1 = []) (c : Nat) :
    AC P f (.one (.c (.slice none 0 0)) :: rest) [] (.one (.own c)) [(c, some (.arr U e' ys d'))] := by
  refine ⟨h.fn, fun g w cargs m ha => ?_⟩
  obtain ⟨g', q1, q2, q3, q4, q5⟩ := nil_new m (k := 0) rfl (by simp [Locs.ids]) α T e
  have ha' : All2 (VR1 g' [(0, some (.arr (α := α) T e [] true))] w) cargs.toList (.one (.own 0) :: rest) := by
    generalize cargs.toList = vs at ha
    cases vs with
    | nil => exact ha
    | cons v vs =>
      refine ⟨fun β U e2 ys dd hc => by rw [q1]; exact ha.1.1, ha.2.mono fun a b hb hr => VR1.step (fun _ _ => rfl) q4 (Nat.le_refl _) (fun k hk => ?_) hr⟩
      have : k ∈ rest.flatMap AVal.ids1 := List.mem_flatMap.2 ⟨b, hb, hk⟩
      rw [hrest] at this; cases this
  refine (h.run g' w cargs q2 ha').mono ?_
  rintro r w' ⟨v, g1, rfl, m1, hv, hs⟩
  have hle : LeL (fun _ => 1) [(1, some (.arr U e' ys d'))] [(c, some (.arr U e' ys d'))] := ⟨⟨_, rfl, BLe.rf⟩, trivial⟩
  have T1 := ((q3 []).trans m q2 hs).trans m m1 (Step.unren hle trivial)
  exact ⟨v, g1.ren _, rfl, m1.unren hle (by simp [injL, keys]), VR.unren (x := .one (.own c)) hle hv, T1⟩
end Go.Proofs.Ytkemjhlbokldhaa

/- Smaller numbers of two; pointers that are not nil; bytes in memory are bytes. -/
namespace Go.Proofs.Ytkemjhlbokldhaa
open Go.RowKit
set_option linter.unusedVariables false
section ops
variable {P : Program} {N : Nat} {s : St} {d : Nat} {ty : TypeId} {pos : String} {after : Array Edge} {gd : Option (Nat × Bool)}
end ops
theorem byte_wf {x : Int} (h : (Lit.int .u8 x).wf = true) : 0 ≤ x ∧ x ≤ 255 := by
  simp only [Lit.wf, Bool.and_eq_true, decide_eq_true_eq] at h
  exact h
theorem SliceRep.bytes {w : World} {a : Option Addr} {n cap : Nat} {xs : List Int} {bs : List Nat} (h : SliceRep (intE .u8) w a n cap xs bs) : ∀ x ∈ xs, 0 ≤ x ∧ x ≤ 255 := fun x hx => by
  obtain ⟨j, hj, rfl⟩ := List.getElem_of_mem hx
  obtain ⟨gb, o, cs, b, _, f1, _⟩ := h.get hj
  exact byte_wf f1.2.1
end Go.Proofs.Ytkemjhlbokldhaa

/- Operations whose new array is at once given up to be read alone. -/
namespace Go.Proofs.Ytkemjhlbokldhaa
open Go.RowKit
set_option linter.unusedVariables false

theorem above : ∀ L : List Nat, ∃ k, ∀ i ∈ L, i < k
  | [] => ⟨0, fun i h => by cases h⟩
  | a :: L => by
    obtain ⟨k, hk⟩ := above L
    refine ⟨max (a + 1) k, fun i hi => ?_⟩
    rcases List.mem_cons.1 hi with rfl | hi
    · omega
    · have := hk i hi; omega
section
variable {g g' : Gh} {l l' : Locs} {w w' : World}
theorem okK.congr {l2 : Locs} (h : ∀ j, lkl l' j = lkl l2 j) {k : Nat} (hk : okK g l g' l' k) : okK g l g' l2 k :=
  ⟨fun cs hc => hk.1 cs (by rw [h]; exact hc), fun α T e xs d hc => hk.2 α T e xs d (by rw [h]; exact hc)⟩
theorem okK.back {l2 : Locs} (h : ∀ j, lkl l j = lkl l2 j) {k : Nat} : okK g l g l2 k := okK.same (h k).symm rfl rfl
theorem MemR.congr (h : ∀ j, lkl l j = lkl l' j) (m : MemR g l w) : MemR g l' w := by
  refine ⟨m.ilt, fun k cs hc => ?_, fun k α T e xs d hc => m.arr k _ _ _ _ _ (by rw [h]; exact hc), fun j k b b' hjk h1 h2 => m.dis j k _ _ hjk (by rw [h]; exact h1) (by rw [h]; exact h2), fun k α T e xs hc => m.fr k _ _ _ _ (by rw [h]; exact hc), fun j k α β T U e f xs ys hjk h1 h2 => m.fd j k _ _ _ _ _ _ _ _ hjk (by rw [h]; exact h1) (by rw [h]; exact h2)⟩
  obtain ⟨vs, t, h1, h2, h3⟩ := m.box k cs (by rw [h]; exact hc)
  exact ⟨vs, t, h1, h2.mono fun a c _ hr => CellR.step (fun _ _ => rfl) (fun _ h => h) (Nat.le_refl _) (fun i _ => okK.back h) hr, h3⟩
theorem VR.congr (h : ∀ j, lkl l j = lkl l' j) {v : Value} {x : AVal} (hv : VR g l w v x) : VR g l' w v x := hv.step (fun _ _ => rfl) (fun _ h => h) (Nat.le_refl _) (fun i _ => okK.back h)
theorem OwnB.congr (h : ∀ j, lkl l j = lkl l' j) {b : Nat} (hb : OwnB g l b) : OwnB g l' b := by
  obtain ⟨k, blk, h1, h2⟩ := hb
  exact ⟨k, blk, by rw [← h]; exact h1, h2⟩
end
theorem OpOK.frz {P : Program} {N d : Nat} {o : Oper} {rt : List (Nat × AVal)} {rl : List (Nat × Blk)} {α : Type} {T : TypeId} {e : Enc α} {xs : List α} {dp : Bool} {L : List Nat}
    (h : ∀ k, (∀ i ∈ L, i < k) → OpOK P N o ⟨rt, rl, [(d, .one (.own k))], [(k, some (.arr T e xs dp))], [k]⟩) : OpOK P N o ⟨rt, rl, [(d, .one (.sl e xs))], [], []⟩ := fun K g s a w hp r => by
  obtain ⟨k, hk⟩ := above (L ++ (keys s.l ++ s.ids))
  have hkl : lk s.l k = none := by
    cases hq : lk s.l k with
    | none => rfl
    | some y =>
      have h1 : k ∈ keys s.l := List.mem_map.2 ⟨_, lk_mem hq, rfl⟩
      have := hk k (List.mem_append_right _ (List.mem_append_left _ h1))
      omega
  have hki : k ∉ s.ids := fun hm => by
    have := hk k (List.mem_append_right _ (List.mem_append_right _ hm))
    omega
  have hkk : lkl s.l k = none := by unfold lkl; rw [hkl]
  have h1 := h k (fun i hi => hk i (List.mem_append_left _ hi)) K g s a w ⟨hp.1, hp.2.1, fun j hj => by simp at hj; subst hj; exact ⟨hkl, hki⟩⟩ r
  refine Oper.wp_mono ?_ h1
  rintro a' w' ⟨g', r', st⟩
  have hu : (Cert.upd ⟨rt, rl, [(d, .one (.own k))], [(k, some (.arr T e xs dp))], [k]⟩ s) = ⟨(d, .one (.own k)) :: s.t, (k, some (.arr T e xs dp)) :: s.l⟩ := rfl
  rw [hu] at r' st
  have hka : lkl ((k, some (Blk.arr T e xs dp)) :: s.l) k = some (.arr T e xs dp) := lkl_cons_self
  obtain ⟨m1, st1, c1, ok1⟩ := shut_mem r'.mem hka
  have T2 := Step.trans r.mem r'.mem st (st1 K)
  have hl : ∀ j, lkl ((k, none) :: (k, some (Blk.arr T e xs dp)) :: s.l) j = lkl s.l j := fun j => by
    by_cases q : k = j
    · subst q; rw [lkl_cons_self, hkk]
    · rw [lkl_cons_ne q, lkl_cons_ne q]
  have hv : a'.tmps.getD d undef = g'.hd k := (r'.tmp d _ (lk_cons_self ..) : CellR g' _ w' _ (.own k)) _ _ _ _ _ hka
  refine ⟨g'.shut k, ⟨r'.size, r'.defers, fun j x hj => ?_, m1.congr hl⟩, ⟨T2.os, T2.tape, T2.output, T2.size, T2.keep, T2.imm, T2.imm', fun b hb => T2.own b (OwnB.congr (fun j => (hl j).symm) hb), fun j hj hn => ?_⟩⟩
  · have hj : lk ((d, AVal.one (.sl e xs)) :: s.t) j = some x := hj
    by_cases hjt : d = j
    · subst hjt
      rw [lk_cons_self] at hj; cases hj
      rw [hv]; exact VR.congr (x := .one (.sl e xs)) hl c1
    · rw [lk_cons_ne hjt] at hj
      have h2 := r'.tmp j x (by show lk ((d, AVal.one (.own k)) :: s.t) j = some x; rw [lk_cons_ne hjt]; exact hj)
      have h3 : VR (g'.shut k) ((k, none) :: (k, some (Blk.arr T e xs dp)) :: s.l) w' (a'.tmps.getD j undef) x := h2.step (fun _ _ => rfl) (fun _ h => .inl h) (Nat.le_refl _) (fun i _ => ok1 i)
      exact VR.congr hl h3
  · obtain ⟨z1, z2, z3⟩ := T2.base j hj hn
    exact ⟨hn, okK.congr hl z2, fun cs hc => ⟨cs, hc⟩⟩
theorem noId_mk {k : Nat} {l : List Nat} (h : k ∉ l) : noId k l = true := by
  unfold noId
  rw [List.all_eq_true]
  intro i hi
  cases hq : Nat.beq i k
  · rfl
  · exact absurd (Nat.eq_of_beq_eq_true hq ▸ hi) h
section ops
variable {P : Program} {N : Nat} {s : St} {d : Nat} {ty : TypeId} {pos : String} {after : Array Edge} {gd : Option (Nat × Bool)}
theorem y_bslice_sl {α : Type} {e : Enc α} {f : α → List Cell} [hc : CellsOf e f] {T E len : Nat} (ops : List Operand) {parts : Array (Nat × Operand)} {Xs : List AVal} (xs : List α) {ds : List Cell} {dp : Bool} (hN : Nat.blt d N = true)
    (hparts : parts = ((ops.zipIdx 0).map fun x => (x.2, x.1)).toArray) (hev : evl s.t ops = some Xs) (hfl : flats Xs = true) (hsol : (Xs.flatMap AVal.cells).all (solid s.l) = true)
    (hlen : ops.length = len) (hsz : Xs.all (fun X => Nat.beq X.cells.length e.size) = true)
    (hmv : mvC s.l (Xs.flatMap AVal.cells) = some (ds, [], dp)) (hfit : FitL ds (xs.flatMap f)) (hxs : xs.length = len) (hpos : Nat.blt 0 len = true) (hsmall : Nat.ble (len * e.size) 16777216 = true)
    (hT : arrOk P T E e.size = true) :
    Stp P N ⟨some d, .buildSlice T len parts, ty, pos, after, gd⟩ s ⟨(d, .one (.sl e xs)) :: s.t, s.l⟩ ⟨rdl s.t ops, rlC s.l (Xs.flatMap AVal.cells), [(d, .one (.sl e xs))], [], []⟩ :=
  ⟨OpOK.frz (T := E) (dp := dp) (L := keys s.l ++ s.ids) fun k hk => (y_bslice ops xs k hN hparts hev hfl hsol hlen hsz hmv hfit rfl hxs hpos hsmall (by
      cases hq : lk s.l k with
      | none => rfl
      | some y =>
        have h1 : k ∈ keys s.l := List.mem_map.2 ⟨_, lk_mem hq, rfl⟩
        have := hk k (List.mem_append_left _ h1)
        omega) (noId_mk fun hm => by
        have := hk k (List.mem_append_right _ hm)
        omega) hT).1, ⟨(evl_ok (N := N) hev).1, rlC_self, fun j hj => by cases hj⟩, rfl⟩
end ops
end Go.Proofs.Ytkemjhlbokldhaa

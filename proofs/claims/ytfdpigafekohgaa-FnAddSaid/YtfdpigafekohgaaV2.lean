/- Lemmas of the walks, part 2. -/
import Derived.Test.YtfdpigafekohgaaV1
import Derived.Great.FillDense
import Derived.Great.BuildSlice
import Derived.Deep.Upon
import Derived.Lib.AppendStr
import Derived.Lib.ConvBytes
import Derived.Lib.BufferRead
import Derived.Laws.CopyRow
import Derived.Laws.NewBlocks
import Derived.Lib.AppendZerosOnto
import Derived.Lib.Overlaps
import Derived.Lib.SliceRun
import Derived.Lib.JoinLaws
import Derived.Shelf.Spec.SlicesInsert
import Derived.Deep.RegionLaw
import Derived.Laws.Small
import Derived.Deep.RegionHeld3
/- More operations of the abstract walk: numbers of other kinds, shifts. -/
namespace Go.Proofs.Ytfdpigafekohgaa
open Go.RowKit
set_option linter.unusedVariables false
section ops
variable {P : Program} {N : Nat} {s : St} {d : Nat} {ty : TypeId} {pos : String} {after : Array Edge} {gd : Option (Nat × Bool)}

def intT (P : Program) (A B : TypeId) : Option IntKind :=
  match P.underlying A, P.underlying B with
  | some _, some (.int k) => some k
  | _, _ => none
theorem run_conv {A B : TypeId} {k k' : IntKind} {n : Int} (h : intT P A B = some k') (w : World) : (convert A B (.int k n)).run P w = .ok (.int k' (k'.wrap n)) w := by
  unfold intT at h
  split at h
  · rename_i a k0 h1 h2
    cases h
    simp only [convert, Sem.run_bind, run_underlying h1, run_underlying h2, Result.andThen_ok]
    cases a <;> rfl
  · cases h
theorem x_conv {A B : TypeId} {x : Operand} {k k' : IntKind} {n r : Int} (hN : Nat.blt d N = true) (h : evo s.t x = some (.one (.c (.int k n)))) (hk : intT P A B = some k') (hr : k'.wrap n = r) :
    Stp P N ⟨some d, .convert A B x, ty, pos, after, gd⟩ s ⟨(d, .one (.c (.int k' r))) :: s.t, s.l⟩ ⟨rdo x (.one (.c (.int k n))), [], [(d, .one (.c (.int k' r)))], [], []⟩ :=
  Stp.pure rfl hN (rdo_of h) (by simp) fun g s' a w ht hl' rp => by
    obtain ⟨e1, _⟩ : a.eval x = .int k n ∧ wfV (.int k n) := eval_ok rp (evs_of h) ht
    refine ⟨.int k' (k'.wrap n), by simp only [execOp, e1, Sem.run_bind, run_conv hk, Result.andThen_ok, Sem.run_pure], ?_, ?_⟩
    · rw [hr]
    · rw [← hr]; exact wf_wrap k' _
theorem x_shr {T T' : TypeId} {x y : Operand} {k k' : IntKind} {m n r : Int} (hN : Nat.blt d N = true) (h : evo s.t x = some (.one (.c (.int k m)))) (h2 : evo s.t y = some (.one (.c (.int k' n)))) (h0 : 0 ≤ n) (hr : m.fdiv (2 ^ (min n.toNat k.bits)) = r) (hw : (Lit.int k r).wf = true) :
    Stp P N ⟨some d, .binOp .shr T x y T', ty, pos, after, gd⟩ s ⟨(d, .one (.c (.int k r))) :: s.t, s.l⟩ ⟨rdo x (.one (.c (.int k m))) ++ rdo y (.one (.c (.int k' n))), [], [(d, .one (.c (.int k r)))], [], []⟩ :=
  Stp.pure rfl hN (two_rd h h2) (by simp) fun g s' a w ht hl' rp => by
    obtain ⟨⟨e1, w1⟩, e2, w2⟩ := two_c rp (evs_of h) (evs_of h2) ht
    refine ⟨.int k r, run_binOp rfl ?_, rfl, hw⟩
    rw [e1, e2]
    have : ¬ n < 0 := by omega
    simp only [Sem.run_bind, guard_int, Result.andThen_ok]
    simp only [binOp, Op.shift, this, if_false, hr]; rfl
theorem x_shl {T T' : TypeId} {x y : Operand} {k k' : IntKind} {m n r : Int} (hN : Nat.blt d N = true) (h : evo s.t x = some (.one (.c (.int k m)))) (h2 : evo s.t y = some (.one (.c (.int k' n)))) (h0 : 0 ≤ n) (hr : k.wrap (m * 2 ^ (min n.toNat k.bits)) = r) :
    Stp P N ⟨some d, .binOp .shl T x y T', ty, pos, after, gd⟩ s ⟨(d, .one (.c (.int k r))) :: s.t, s.l⟩ ⟨rdo x (.one (.c (.int k m))) ++ rdo y (.one (.c (.int k' n))), [], [(d, .one (.c (.int k r)))], [], []⟩ :=
  Stp.pure rfl hN (two_rd h h2) (by simp) fun g s' a w ht hl' rp => by
    obtain ⟨⟨e1, w1⟩, e2, w2⟩ := two_c rp (evs_of h) (evs_of h2) ht
    refine ⟨.int k r, run_binOp rfl ?_, rfl, by rw [← hr]; exact wf_wrap k _⟩
    rw [e1, e2]
    have : ¬ n < 0 := by omega
    simp only [Sem.run_bind, guard_int, Result.andThen_ok]
    simp only [binOp, Op.shift, this, if_false, hr]; rfl
end ops
end Go.Proofs.Ytfdpigafekohgaa

/- Bits of whole numbers, in the abstract walk. -/
namespace Go.Proofs.Ytfdpigafekohgaa
open Go.RowKit
set_option linter.unusedVariables false

def bitOr (m n : Int) : Int := IntKind.i64.wrap ((BitVec.ofInt IntKind.i64.bits m ||| BitVec.ofInt IntKind.i64.bits n).toNat : Int)
def bitAndNot (m n : Int) : Int := IntKind.i64.wrap ((BitVec.ofInt IntKind.i64.bits m &&& ~~~BitVec.ofInt IntKind.i64.bits n).toNat : Int)
section
variable {P : Program} {N d : Nat} {s : St} {ty : TypeId} {pos : String} {after : Array Edge} {gd : Option (Nat × Bool)}
theorem x_or {T T' : TypeId} {x y : Operand} {m n : Int} (hN : Nat.blt d N = true) (h : evo s.t x = some (.one (.c (.int .i64 m)))) (h2 : evo s.t y = some (.one (.c (.int .i64 n)))) :
    Stp P N ⟨some d, .binOp .or T x y T', ty, pos, after, gd⟩ s ⟨(d, .one (.c (.int .i64 (bitOr m n)))) :: s.t, s.l⟩ ⟨rdo x (.one (.c (.int .i64 m))) ++ rdo y (.one (.c (.int .i64 n))), [], [(d, .one (.c (.int .i64 (bitOr m n))))], [], []⟩ :=
  x_int2 hN h h2 (fun w => by simp only [binOp, Op.intBits]; rfl) (fun _ _ => wf_wrap .i64 _)
theorem x_andNot {T T' : TypeId} {x y : Operand} {m n : Int} (hN : Nat.blt d N = true) (h : evo s.t x = some (.one (.c (.int .i64 m)))) (h2 : evo s.t y = some (.one (.c (.int .i64 n)))) :
    Stp P N ⟨some d, .binOp .andNot T x y T', ty, pos, after, gd⟩ s ⟨(d, .one (.c (.int .i64 (bitAndNot m n)))) :: s.t, s.l⟩ ⟨rdo x (.one (.c (.int .i64 m))) ++ rdo y (.one (.c (.int .i64 n))), [], [(d, .one (.c (.int .i64 (bitAndNot m n))))], [], []⟩ :=
  x_int2 hN h h2 (fun w => by simp only [binOp, Op.intBits]; rfl) (fun _ _ => wf_wrap .i64 _)
end
theorem wrap64 (n : Int) : IntKind.i64.wrap n = if 9223372036854775808 ≤ n % 18446744073709551616 then n % 18446744073709551616 - 18446744073709551616 else n % 18446744073709551616 := by
  simp [IntKind.wrap, IntKind.bits, IntKind.signed]
theorem wrapBits {a b : BitVec 64} (h : IntKind.i64.wrap (a.toNat : Int) = IntKind.i64.wrap (b.toNat : Int)) : a = b := by
  rw [wrap64, wrap64] at h
  have h1 := a.isLt
  have h2 := b.isLt
  apply BitVec.eq_of_toNat_eq
  omega
theorem wrapSelf {n : Int} (h1 : -9223372036854775808 ≤ n) (h2 : n ≤ 9223372036854775807) : IntKind.i64.wrap ((BitVec.ofInt 64 n).toNat : Int) = n := by
  rw [wrap64, BitVec.toNat_ofInt]
  have : ((n % ((2 ^ 64 : Nat) : Int)).toNat : Int) = n % 18446744073709551616 := by
    rw [Int.toNat_of_nonneg (by omega)]; rfl
  rw [this]
  omega
theorem bits_in {m n : Int} (h1 : -9223372036854775808 ≤ n) (h2 : n ≤ 9223372036854775807) : bitOr m n = n ↔ bitAndNot m n = 0 := by
  have key : ∀ a b : BitVec 64, a ||| b = b ↔ a &&& ~~~b = 0#64 := by
    intro a b
    constructor
    · intro h
      rw [← h]
      ext i hi
      simp only [BitVec.getElem_and, BitVec.getElem_not, BitVec.getElem_or, BitVec.getElem_zero]
      cases a[i] <;> cases b[i] <;> rfl
    · intro h
      ext i hi
      have := congrArg (fun x : BitVec 64 => x[i]) h
      simp only [BitVec.getElem_and, BitVec.getElem_not, BitVec.getElem_zero] at this
      simp only [BitVec.getElem_or]
      revert this
      cases a[i] <;> cases b[i] <;> simp
  have z : IntKind.i64.wrap (((0#64 : BitVec 64).toNat : Nat) : Int) = 0 := rfl
  constructor
  · intro h
    have h := h.trans (wrapSelf h1 h2).symm
    have h := (key _ _).1 (wrapBits h)
    exact (congrArg (fun x : BitVec 64 => IntKind.i64.wrap (x.toNat : Int)) h).trans z
  · intro h
    have h := (key _ _).2 (wrapBits (h.trans z.symm))
    exact (congrArg (fun x : BitVec 64 => IntKind.i64.wrap (x.toNat : Int)) h).trans (wrapSelf h1 h2)
end Go.Proofs.Ytfdpigafekohgaa

/- The draws of the laws, ars functions of a place in the bytes: whole numbers, words, values, rows, relations. -/
namespace Go.Proofs.Ytfdpigafekohgaa
open Go.RowKit
set_option linter.unusedVariables false

def bitAnd (m n : Int) : Int := IntKind.i64.wrap ((BitVec.ofInt IntKind.i64.bits m &&& BitVec.ofInt IntKind.i64.bits n).toNat : Int)
def bitXor (m n : Int) : Int := IntKind.i64.wrap ((BitVec.ofInt IntKind.i64.bits m ^^^ BitVec.ofInt IntKind.i64.bits n).toNat : Int)
section
variable {P : Program} {N d : Nat} {s : St} {ty : TypeId} {pos : String} {after : Array Edge} {gd : Option (Nat × Bool)}
theorem x_and {T T' : TypeId} {x y : Operand} {m n : Int} (hN : Nat.blt d N = true) (h : evo s.t x = some (.one (.c (.int .i64 m)))) (h2 : evo s.t y = some (.one (.c (.int .i64 n)))) :
    Stp P N ⟨some d, .binOp .and T x y T', ty, pos, after, gd⟩ s ⟨(d, .one (.c (.int .i64 (bitAnd m n)))) :: s.t, s.l⟩ ⟨rdo x (.one (.c (.int .i64 m))) ++ rdo y (.one (.c (.int .i64 n))), [], [(d, .one (.c (.int .i64 (bitAnd m n))))], [], []⟩ :=
  x_int2 hN h h2 (fun w => by simp only [binOp, Op.intBits]; rfl) (fun _ _ => wf_wrap .i64 _)
theorem x_xor {T T' : TypeId} {x y : Operand} {m n : Int} (hN : Nat.blt d N = true) (h : evo s.t x = some (.one (.c (.int .i64 m)))) (h2 : evo s.t y = some (.one (.c (.int .i64 n)))) :
    Stp P N ⟨some d, .binOp .xor T x y T', ty, pos, after, gd⟩ s ⟨(d, .one (.c (.int .i64 (bitXor m n)))) :: s.t, s.l⟩ ⟨rdo x (.one (.c (.int .i64 m))) ++ rdo y (.one (.c (.int .i64 n))), [], [(d, .one (.c (.int .i64 (bitXor m n))))], [], []⟩ :=
  x_int2 hN h h2 (fun w => by simp only [binOp, Op.intBits]; rfl) (fun _ _ => wf_wrap .i64 _)
end
theorem bitAnd_255 (m : Int) : 0 ≤ bitAnd m 255 ∧ bitAnd m 255 ≤ 255 := by
  have h : (BitVec.ofInt 64 m &&& BitVec.ofInt 64 255).toNat ≤ 255 := by
    rw [BitVec.toNat_and]
    exact Nat.and_le_right
  have e : bitAnd m 255 = IntKind.i64.wrap ((BitVec.ofInt 64 m &&& BitVec.ofInt 64 255).toNat : Int) := rfl
  rw [e, wrap64]
  generalize (BitVec.ofInt 64 m &&& BitVec.ofInt 64 255).toNat = q at h
  split <;> omega
theorem w64_in (n : Int) : -9223372036854775808 ≤ IntKind.i64.wrap n ∧ IntKind.i64.wrap n ≤ 9223372036854775807 := by
  rw [wrap64]; split <;> omega
/-- A place in the bytes, and the number that is mixed in. -/
structure Cur where
  i : Nat
  h : Int
/-- It lies in a variable. -/
def curB (b : List Int) (c : Cur) : Blk := .box [.sl (intE .u8) b, .c (.int .i64 c.i), .c (.int .i64 c.h)]
def w64 (n : Int) : Int := IntKind.i64.wrap n
def hashTo (b : List Int) : Nat → Int
  | 0 => w64 (391785 + (b.length : Int))
  | k + 1 => bitAnd (w64 (w64 (w64 (hashTo b k * 131) + w64 (b.getD k 0)) + 7)) 1073741823
def dNew (b : List Int) : Cur := ⟨0, hashTo b (min b.length 4000)⟩
def nextH (h : Int) : Int := w64 (w64 (h * 6364136223846793005) + 1442695040888963407)
theorem nextH_in (h : Int) : -9223372036854775808 ≤ nextH h ∧ nextH h ≤ 9223372036854775807 := w64_in _
theorem shr_33 (h : Int) : (Lit.int .i64 ((nextH h).fdiv (2 ^ 33))).wf = true := by
  have h1 := nextH_in h
  have e : (2 : Int) ^ 33 = 8589934592 := by decide
  rw [e, Int.fdiv_eq_ediv_of_nonneg _ (by decide)]
  exact WalkArith.wf_i64 (by omega)
theorem shr_45 (h : Int) : (Lit.int .i64 ((nextH h).fdiv (2 ^ 45))).wf = true := by
  have h1 := nextH_in h
  have e : (2 : Int) ^ 45 = 35184372088832 := by decide
  rw [e, Int.fdiv_eq_ediv_of_nonneg _ (by decide)]
  exact WalkArith.wf_i64 (by omega)
theorem getD_int {b : List Int} {k : Nat} (h : k < b.length) : b[k] = b.getD k 0 := by simp [List.getD, h]
def mixH (h : Int) : Int := bitAnd (bitXor (h.fdiv (2 ^ 33)) (h.fdiv (2 ^ 45))) 255
def dByte (b : List Int) (c : Cur) : Int × Cur :=
  if c.i < b.length then (bitAnd (w64 (mixH (nextH c.h) + w64 (b.getD c.i 0))) 255, ⟨c.i + 1, nextH c.h⟩) else (mixH (nextH c.h), ⟨c.i, nextH c.h⟩)
theorem dByte_in (b : List Int) (c : Cur) : 0 ≤ (dByte b c).1 ∧ (dByte b c).1 ≤ 255 := by
  unfold dByte; split <;> exact bitAnd_255 _
theorem dByte_yes {b : List Int} {c : Cur} (h : c.i < b.length) : dByte b c = (bitAnd (w64 (mixH (nextH c.h) + w64 (b.getD c.i 0))) 255, ⟨c.i + 1, nextH c.h⟩) := if_pos h
theorem dByte_no {b : List Int} {c : Cur} (h : ¬ c.i < b.length) : dByte b c = (mixH (nextH c.h), ⟨c.i, nextH c.h⟩) := if_neg h
def dFour (b : List Int) (c : Cur) : Int × Cur :=
  ((dByte b c).1 * 16777216 + (dByte b (dByte b c).2).1 * 65536 + (dByte b (dByte b (dByte b c).2).2).1 * 256 + (dByte b (dByte b (dByte b (dByte b c).2).2).2).1, (dByte b (dByte b (dByte b (dByte b c).2).2).2).2)
def dBelow (b : List Int) (c : Cur) (n : Int) : Int × Cur :=
  if n ≤ 0 then (0, c) else if n ≤ 256 then ((dByte b c).1.tmod n, (dByte b c).2) else ((dFour b c).1.tmod n, (dFour b c).2)
theorem dFour_in (b : List Int) (c : Cur) : 0 ≤ (dFour b c).1 ∧ (dFour b c).1 ≤ 4294967295 := by
  have h1 := dByte_in b c
  have h2 := dByte_in b (dByte b c).2
  have h3 := dByte_in b (dByte b (dByte b c).2).2
  have h4 := dByte_in b (dByte b (dByte b (dByte b c).2).2).2
  simp only [dFour]; omega
theorem dBelow_in (b : List Int) (c : Cur) (n : Int) : 0 ≤ (dBelow b c n).1 ∧ ((dBelow b c n).1 < n ∨ (dBelow b c n).1 = 0) := by
  have h1 := dByte_in b c
  have h2 := dFour_in b c
  unfold dBelow
  split
  · exact ⟨Int.le_refl 0, .inr rfl⟩
  · split
    · rw [Int.tmod_eq_emod_of_nonneg h1.1]
      exact ⟨Int.emod_nonneg _ (by omega), .inl (Int.emod_lt_of_pos _ (by omega))⟩
    · rw [Int.tmod_eq_emod_of_nonneg h2.1]
      exact ⟨Int.emod_nonneg _ (by omega), .inl (Int.emod_lt_of_pos _ (by omega))⟩
theorem dBelow_lt (b : List Int) (c : Cur) {n : Int} (h : 0 < n) : 0 ≤ (dBelow b c n).1 ∧ (dBelow b c n).1 < n := by
  have := dBelow_in b c n
  omega
theorem dBelow_0 {b : List Int} {c : Cur} {n : Int} (h : n ≤ 0) : dBelow b c n = (0, c) := if_pos h
theorem dBelow_1 {b : List Int} {c : Cur} {n : Int} (h : ¬ n ≤ 0) (h2 : n ≤ 256) : dBelow b c n = ((dByte b c).1.tmod n, (dByte b c).2) := by unfold dBelow; rw [if_neg h, if_pos h2]
theorem dBelow_2 {b : List Int} {c : Cur} {n : Int} (h : ¬ n ≤ 0) (h2 : ¬ n ≤ 256) : dBelow b c n = ((dFour b c).1.tmod n, (dFour b c).2) := by unfold dBelow; rw [if_neg h, if_neg h2]
end Go.Proofs.Ytfdpigafekohgaa

/- Values, rows and relations that are drawn, in plain words. -/
namespace Go.Proofs.Ytfdpigafekohgaa
open Go.RowKit
set_option linter.unusedVariables false

def dRawK (b : List Int) (k : Int) (c : Cur) : Int × Cur :=
  if k < 5 then dBelow b c 12 else if k = 5 then dBelow b c 256
  else if k = 6 then (281474976710655 - (dBelow b c 2).1 + (dBelow b (dBelow b c 2).2 3).1, (dBelow b (dBelow b c 2).2 3).2)
  else if k = 7 then (-1 - (dBelow b c 3).1, (dBelow b c 3).2)
  else if k = 8 then (9223372036854775807 - (dBelow b c 2).1, (dBelow b c 2).2)
  else if k = 9 then (-9223372036854775807 - (dBelow b c 2).1, (dBelow b c 2).2)
  else if k = 10 then (256 ^ (1 + (dBelow b c 6).1).toNat - (dBelow b (dBelow b c 6).2 2).1, (dBelow b (dBelow b c 6).2 2).2)
  else ((dBelow b c 65536).1 * (dBelow b (dBelow b c 65536).2 65536).1, (dBelow b (dBelow b c 65536).2 65536).2)
def dRaw (b : List Int) (c : Cur) : Int × Cur := dRawK b (dBelow b c 12).1 (dBelow b c 12).2
def dNum6K (b : List Int) (k : Int) (c : Cur) : Int × Cur :=
  if k < 6 then dBelow b c 9 else if k = 6 then (281474976710655, c) else ((dBelow b c 1000000).1 * 1000003, (dBelow b c 1000000).2)
def dNum6 (b : List Int) (c : Cur) : Int × Cur := dNum6K b (dBelow b c 8).1 (dBelow b c 8).2
/-! ### Bounds -/
theorem pow_256 {m : Nat} (h : m ≤ 6) : 0 ≤ (256 : Int) ^ m ∧ (256 : Int) ^ m ≤ 281474976710656 := by
  have h1 : 256 ^ m ≤ 256 ^ 6 := Nat.pow_le_pow_right (by decide) h
  have e : (256 : Int) ^ m = ((256 ^ m : Nat) : Int) := by simp
  have e6 : (256 : Nat) ^ 6 = 281474976710656 := by decide
  rw [e6] at h1
  rw [e]
  generalize (256 : Nat) ^ m = q at *
  omega
end Go.Proofs.Ytfdpigafekohgaa

/- The abstract walk: arrays of one's own that are made, filled and grown; what is put into them becomes theirs. -/
namespace Go.Proofs.Ytfdpigafekohgaa
open Go.RowKit
set_option linter.unusedVariables false

/-! ### Elements ars one row of cells -/
theorem FR.keep {w w' : World} : ∀ {vs : List Value} {cs : List Cell} {b : List Nat}, FR w vs cs b → (∀ i ∈ b, w'.heap[i]? = w.heap[i]?) → w.heap.size ≤ w'.heap.size → FR w' vs cs b
  | [], [], b, h, _, _ => h
  | v :: vs, c :: cs, b, h, hk, hs => by
    obtain ⟨b1, b2, rfl, h1, h2⟩ := h
    refine ⟨b1, b2, rfl, ?_, FR.keep h2 (fun i hi => hk i (List.mem_append_right _ hi)) hs⟩
    cases c with
    | c u => exact h1
    | sl e xs =>
      obtain ⟨a, n, cap, h3, h4⟩ := h1
      exact ⟨a, n, cap, h3, h4.keep (fun i hi => hk i (List.mem_append_left _ hi)) hs⟩
    | rx e x us b j =>
      obtain ⟨h3, h4, rfl⟩ := h1
      exact ⟨h3, e.keep h4 (fun i hi => hk i (List.mem_append_left _ hi)) hs, rfl⟩
    | _ => exact h1.elim
theorem FR.one {w : World} : ∀ {vs : List Value} {cs : List Cell} {b : List Nat}, FR w vs cs b → ∀ u ∈ vs, u.oneCell' = true
  | [], [], b, _, u, hu => by cases hu
  | v :: vs, c :: cs, b, h, u, hu => by
    obtain ⟨b1, b2, rfl, h1, h2⟩ := h
    rcases List.mem_cons.1 hu with rfl | hu
    · cases c with
      | c u => rw [h1.1]; exact one_of_wf h1.2.1
      | sl e xs => obtain ⟨a, n, cap, rfl, _⟩ := h1; rfl
      | rx e x us b j => exact h1.1.2
      | _ => exact h1.elim
    · exact FR.one h2 u hu
theorem FR.length {w : World} : ∀ {vs : List Value} {cs : List Cell} {b : List Nat}, FR w vs cs b → vs.length = cs.length
  | [], [], b, _ => rfl
  | v :: vs, c :: cs, b, h => by
    obtain ⟨b1, b2, rfl, h1, h2⟩ := h
    simp [FR.length h2]

section
variable {α : Type} {e : Enc α} {f : α → List Cell} [hc : CellsOf e f] {w : World} {g : Nat}
theorem Elems.flat : ∀ {xs : List α} {bss : List (List Nat)} {off : Nat}, Elems e w g off xs bss →
    ∃ vs, FR w vs (xs.flatMap f) bss.flatten ∧ vs.length = xs.length * e.size ∧ ∀ j u, vs[j]? = some u → w.cell? ⟨g, off + j, none⟩ = some u
  | [], bss, off, h => by
    have : bss = [] := List.eq_nil_of_length_eq_zero h.1
    subst this
    exact ⟨[], rfl, by simp, fun j u hu => by simp at hu⟩
  | x :: xs, [], off, h => by have := h.1; simp at this
  | x :: xs, b :: bss, off, h => by
    obtain ⟨cs, h1, h2⟩ := h.2 0 x b rfl rfl
    have ht : Elems e w g (off + e.size) xs bss := ⟨by simpa using h.1, fun i y c hy hcc => by
      obtain ⟨ds, h3, h4⟩ := h.2 (i + 1) y c (by simpa using hy) (by simpa using hcc)
      exact ⟨ds, h3, fun j u hu => by rw [show off + e.size + i * e.size + j = off + (i + 1) * e.size + j by rw [Nat.add_mul]; omega]; exact h4 j u hu⟩⟩
    obtain ⟨vs, h5, h6, h7⟩ := Elems.flat ht
    have hl := e.len h1
    refine ⟨cs ++ vs, ?_, by rw [List.length_append, hl, h6, List.length_cons, Nat.add_mul]; omega, fun j u hu => ?_⟩
    · rw [List.flatMap_cons, List.flatten_cons]
      exact FR.app.2 ⟨cs, vs, b, bss.flatten, rfl, rfl, hc.iff.1 h1, h5⟩
    · rcases Nat.lt_or_ge j cs.length with hj | hj
      · rw [List.getElem?_append_left hj] at hu
        have := h2 j u hu
        simpa using this
      · rw [List.getElem?_append_right hj] at hu
        have := h7 _ u hu
        rw [hl] at this
        rw [show off + j = off + e.size + (j - e.size) by omega]
        exact this
theorem Elems.ofFlat : ∀ {xs : List α} {vs : List Value} {bs : List Nat} {off : Nat}, FR w vs (xs.flatMap f) bs → (∀ j u, vs[j]? = some u → w.cell? ⟨g, off + j, none⟩ = some u) →
    ∃ bss, bss.flatten = bs ∧ Elems e w g off xs bss
  | [], vs, bs, off, h, _ => by
    cases vs with
    | nil =>
      have : bs = [] := h
      subst this
      exact ⟨[], rfl, rfl, fun i x b hx => by simp at hx⟩
    | cons v vs => exact h.elim
  | x :: xs, vs, bs, off, h, hv => by
    rw [List.flatMap_cons] at h
    obtain ⟨v1, v2, b1, b2, rfl, rfl, h1, h2⟩ := FR.app.1 h
    have hr := hc.iff.2 h1
    have hl := e.len hr
    obtain ⟨bss, rfl, hE⟩ := Elems.ofFlat (off := off + e.size) h2 (fun j u hu => by
      rw [show off + e.size + j = off + (v1.length + j) by omega]
      exact hv _ u (by rw [List.getElem?_append_right (by omega)]; simpa using hu))
    refine ⟨b1 :: bss, by simp, by simp [hE.1], fun i y b hy hb => ?_⟩
    cases i with
    | zero =>
      simp at hy hb
      subst hy; subst hb
      exact ⟨v1, hr, fun j u hu => by
        have hj := (List.getElem?_eq_some_iff.1 hu).1
        have := hv j u (by rw [List.getElem?_append_left hj]; exact hu)
        simpa using this⟩
    | succ i =>
      obtain ⟨ds, h3, h4⟩ := hE.2 i y b (by simpa using hy) (by simpa using hb)
      exact ⟨ds, h3, fun j u hu => by rw [show off + (i + 1) * e.size + j = off + e.size + i * e.size + j by rw [Nat.add_mul]; omega]; exact h4 j u hu⟩
end

/-! ### What an own array holds -/
section
variable {α : Type} {e : Enc α} {g : Gh} {l : Locs} {w : World} {k : Nat} {T : TypeId} {xs : List α} {d : Bool}
theorem ArrR.row {f : α → List Cell} [hc : CellsOf e f] (h : ArrR g w k T e xs d) : ∃ cells bs, w.ownsRow 0 T e.size (g.hd k) xs.length cells ∧ FR w cells (xs.flatMap f) bs ∧ (∀ b ∈ bs, g.I b) ∧ (d = true → g.F k = bs) ∧
    (∀ b, (g.hd k).ownBlock = some b → b = g.ρ k) := by
  rcases h with ⟨rfl, h1, h2⟩ | ⟨cap, vs, bss, h1, h2, h3, h4, h5, h6, h7, h8, h9⟩
  · exact ⟨[], [], ⟨by simp, .inl ⟨h1, rfl⟩⟩, rfl, fun _ hb => (by cases hb), h2, fun b hb => by rw [h1] at hb; simp [Value.ownBlock] at hb⟩
  · obtain ⟨us, f1, f2, f3⟩ := h6.flat
    refine ⟨us, bss.flatten, ⟨f2, .inr ⟨g.ρ k, cap, vs, h1, Nat.zero_le _, h4, h2, h3, h5, ?_⟩⟩, f1, h7, h9, fun b hb => by rw [h1] at hb; simp [Value.ownBlock] at hb; exact hb.symm⟩
    have hle : xs.length * e.size ≤ vs.size := by rw [h5]; exact Nat.mul_le_mul_right _ h2
    refine List.ext_getElem? fun j => ?_
    rw [List.getElem?_take]
    split
    · rename_i hj
      have hj' : j < us.length := by rw [f2]; exact hj
      have := f3 j us[j] (List.getElem?_eq_getElem hj')
      rw [cell_of_heap h4, Nat.zero_add] at this
      rw [List.getElem?_eq_getElem hj', ← this]
      simp
    · rename_i hj
      rw [List.getElem?_eq_none (by omega)]
theorem ArrR.ofRow {f : α → List Cell} [hc : CellsOf e f] {cells : List Value} {bs : List Nat} (h : w.ownsRow 0 T e.size (g.hd k) xs.length cells) (hf : FR w cells (xs.flatMap f) bs) (hI : ∀ b ∈ bs, g.I b) (hF : d = true → g.F k = bs)
    (hb : ∀ b, (g.hd k).ownBlock = some b → b = g.ρ k ∧ ¬ g.I b) : ArrR g w k T e xs d := by
  rcases h.2 with ⟨h1, h2⟩ | ⟨b, cap, cur, h1, _, h3, h4, h5, h6, h7⟩
  · have hx : xs = [] := List.eq_nil_of_length_eq_zero h2
    subst hx
    refine .inl ⟨rfl, h1, fun hd => ?_⟩
    rw [hF hd]
    have hcl : cells = [] := List.eq_nil_of_length_eq_zero (by simpa using h.1)
    subst hcl
    exact hf
  · obtain ⟨rfl, hI'⟩ := hb b (by rw [h1]; rfl)
    obtain ⟨bss, rfl, hE⟩ := Elems.ofFlat (e := e) (g := g.ρ k) (off := 0) hf (fun j u hu => by
      rw [cell_of_heap h3, Nat.zero_add]
      rw [← h7, List.getElem?_take] at hu
      split at hu
      · simpa using hu
      · cases hu)
    exact .inr ⟨cap, cur, bss, h1, h4, h5, h3, h6, hE, hI, hI', hF⟩
/-- An own array, read ars a slice. -/
theorem ArrR.slice (h : ArrR g w k T e xs d) : ∃ a n cap bs, g.hd k = .slice a n cap ∧ SliceRep e w a n cap xs bs ∧ (∀ b ∈ bs, g.I b ∨ (g.hd k ≠ .slice none 0 0 ∧ b = g.ρ k)) ∧
    (d = true → bs = [] ∨ (g.hd k ≠ .slice none 0 0 ∧ bs = g.ρ k :: g.F k)) := by
  rcases h with ⟨rfl, h1, h2⟩ | ⟨cap, vs, bss, h1, h2, h3, h4, h5, h6, h7, h8, h9⟩
  · exact ⟨none, 0, 0, [], h1, ⟨rfl, Nat.le_refl _, by unfold maxLen; omega, fun _ => rfl, .inl ⟨rfl, rfl⟩⟩, fun _ hb => (by cases hb), fun _ => .inl rfl⟩
  · have hne : g.hd k ≠ .slice none 0 0 := by rw [h1]; intro e; cases e
    by_cases hx : xs = []
    · subst hx
      exact ⟨_, _, cap, [], h1, ⟨rfl, h2, h3, (fun h => by cases h), .inl ⟨rfl, rfl⟩⟩, fun _ hb => (by cases hb), fun _ => .inl rfl⟩
    · refine ⟨_, _, cap, g.ρ k :: bss.flatten, h1, SliceRep.mk rfl h2 h3 hx (Array.getElem?_eq_some_iff.1 h4).1 h6, fun b hb => ?_, fun hd => .inr ⟨hne, by rw [h9 hd]⟩⟩
      rcases List.mem_cons.1 hb with rfl | hb
      · exact .inr ⟨hne, rfl⟩
      · exact .inl (h7 b hb)
end

/-! ### What is moved -/
/-- Block b is of number j alone. -/
def Via (g : Gh) (l : Locs) (j b : Nat) : Prop :=
  ∃ (α : Type) (T : TypeId) (e : Enc α) (xs : List α), lkl l j = some (.arr T e xs true) ∧ ((g.hd j ≠ .slice none 0 0 ∧ b = g.ρ j) ∨ b ∈ g.F j)
theorem Via.disj {g : Gh} {l : Locs} {w : World} (m : MemR g l w) {i j b : Nat} (hi : Via g l i b) (hj : Via g l j b) : i = j := by
  by_cases hij : i = j
  · exact hij
  · exfalso
    obtain ⟨α, T, e, xs, h1, h2⟩ := hi
    obtain ⟨β, U, e', ys, h3, h4⟩ := hj
    rcases h2 with ⟨h5, rfl⟩ | h5
    · rcases h4 with ⟨h6, h7⟩ | h6
      · exact m.dis i j _ _ hij h1 h3 h5 h6 h7
      · exact m.notI h1 h5 ((m.fr j β U e' ys h3).2 _ h6).1
    · rcases h4 with ⟨h6, rfl⟩ | h6
      · exact m.notI h3 h6 ((m.fr i α T e xs h1).2 _ h5).1
      · exact m.fd i j α β T U e e' xs ys hij h1 h3 b h5 h6
theorem Via.own {g : Gh} {l : Locs} {j b : Nat} (h : Via g l j b) : OwnB g l b := by
  obtain ⟨α, T, e, xs, h1, h2⟩ := h
  rcases h2 with ⟨h3, rfl⟩ | h3
  · exact ⟨j, _, h1, .inl ⟨h3, rfl⟩⟩
  · exact ⟨j, _, h1, .inr ⟨α, T, e, xs, rfl, h3⟩⟩
theorem Via.cells {g : Gh} {l : Locs} {w : World} (m : MemR g l w) {j b : Nat} (h : Via g l j b) : ∃ c t, w.heap[b]? = some (.cells c t (0, 0)) := by
  obtain ⟨α, T, e, xs, h1, h2⟩ := h
  rcases h2 with ⟨h3, rfl⟩ | h3
  · rcases m.arr j _ _ _ _ _ h1 with ⟨_, h4, _⟩ | ⟨_, vs, _, _, _, _, h4, _⟩
    · exact absurd h4 h3
    · exact ⟨_, _, h4⟩
  · exact ((m.fr j α T e xs h1).2 b h3).2
/-- The cells of an element, ars data; the arrays that go into it; whether all that it leads to is its own. -/
def mvC (l : Locs) : List Cell → Option (List Cell × List Nat × Bool)
  | [] => some ([], [], true)
  | c :: cs => match mvC l cs with
    | none => none
    | some (ds, js, d) => match c with
      | .c v => some (.c v :: ds, js, d)
      | .sl e xs => some (.sl e xs :: ds, js, false)
      | .rx e x us b i => some (.rx e x us b i :: ds, js, false)
      | .own j => match lkl l j with
        | some (.arr _ e xs q) => some (.sl e xs :: ds, j :: js, d && q)
        | _ => none
      | _ => none
def liveA (g : Gh) (js : List Nat) (b : Nat) : Prop := ∃ j ∈ js, g.hd j ≠ .slice none 0 0 ∧ b = g.ρ j
theorem mvC_ok {g : Gh} {l : Locs} {w : World} (m : MemR g l w) : ∀ {vs : List Value} {cs ds : List Cell} {js : List Nat} {d : Bool}, All2 (CellR g l w) vs cs → mvC l cs = some (ds, js, d) → js.Nodup →
    ∃ bs, FR w vs ds bs ∧ (∀ b ∈ bs, g.I b ∨ liveA g js b) ∧ (d = true → bs.Nodup ∧ ∀ b ∈ bs, ∃ j ∈ js, Via g l j b)
  | [], [], ds, js, d, _, h, _ => by
    simp only [mvC, Option.some.injEq, Prod.mk.injEq] at h
    obtain ⟨rfl, rfl, rfl⟩ := h
    exact ⟨[], rfl, fun _ hb => (by cases hb), fun _ => ⟨List.nodup_nil, fun _ hb => by cases hb⟩⟩
  | v :: vs, c :: cs, ds, js, d, hA, h, hn => by
    simp only [mvC] at h
    split at h
    · cases h
    · rename_i ds1 js1 d1 h1
      cases c with
      | c u =>
        simp only [Option.some.injEq, Prod.mk.injEq] at h
        obtain ⟨rfl, rfl, rfl⟩ := h
        obtain ⟨bs, f1, f2, f3⟩ := mvC_ok m hA.2 h1 hn
        exact ⟨bs, ⟨[], bs, rfl, ⟨hA.1.1, hA.1.2, rfl⟩, f1⟩, f2, f3⟩
      | sl e xs =>
        simp only [Option.some.injEq, Prod.mk.injEq] at h
        obtain ⟨rfl, rfl, rfl⟩ := h
        obtain ⟨bs, f1, f2, f3⟩ := mvC_ok m hA.2 h1 hn
        obtain ⟨a, n, cap, b1, g1, g2, g3⟩ := hA.1
        refine ⟨b1 ++ bs, ⟨b1, bs, rfl, ⟨a, n, cap, g1, g2⟩, f1⟩, fun b hb => ?_, fun hd => by cases hd⟩
        rcases List.mem_append.1 hb with hb | hb
        · exact .inl (g3 b hb)
        · exact f2 b hb
      | rx e x us b1 i =>
        simp only [Option.some.injEq, Prod.mk.injEq] at h
        obtain ⟨rfl, rfl, rfl⟩ := h
        obtain ⟨bs, f1, f2, f3⟩ := mvC_ok m hA.2 h1 hn
        refine ⟨b1 ++ bs, ⟨b1, bs, rfl, ⟨hA.1.1, hA.1.2.1, rfl⟩, f1⟩, fun b hb => ?_, fun hd => by cases hd⟩
        rcases List.mem_append.1 hb with hb | hb
        · exact .inl (hA.1.2.2 b hb)
        · exact f2 b hb
      | own j =>
        simp only at h
        split at h
        · rename_i T e xs q hj
          simp only [Option.some.injEq, Prod.mk.injEq] at h
          obtain ⟨rfl, rfl, rfl⟩ := h
          have hn' := List.nodup_cons.1 hn
          obtain ⟨bs, f1, f2, f3⟩ := mvC_ok m hA.2 h1 hn'.2
          have hv : v = g.hd j := hA.1 _ _ _ _ _ hj
          obtain ⟨a, n, cap, b1, g1, g2, g3, g4⟩ := (m.arr j _ _ _ _ _ hj).slice
          refine ⟨b1 ++ bs, ⟨b1, bs, rfl, ⟨a, n, cap, hv.trans g1, g2⟩, f1⟩, fun b hb => ?_, fun hd => ?_⟩
          · rcases List.mem_append.1 hb with hb | hb
            · rcases g3 b hb with h | ⟨h, h'⟩
              · exact .inl h
              · exact .inr ⟨j, List.mem_cons_self .., h, h'⟩
            · rcases f2 b hb with h | ⟨i, h, h'⟩
              · exact .inl h
              · exact .inr ⟨i, List.mem_cons_of_mem _ h, h'⟩
          · simp only [Bool.and_eq_true] at hd
            obtain ⟨rfl, rfl⟩ := hd
            obtain ⟨n1, n2⟩ := f3 rfl
            have hvia : ∀ b ∈ b1, Via g l j b := fun b hb => by
              rcases g4 rfl with rfl | ⟨g5, rfl⟩
              · cases hb
              · rcases List.mem_cons.1 hb with rfl | hb
                · exact ⟨_, T, e, xs, hj, .inl ⟨g5, rfl⟩⟩
                · exact ⟨_, T, e, xs, hj, .inr hb⟩
            have hnd : b1.Nodup := by
              rcases g4 rfl with rfl | ⟨g5, rfl⟩
              · exact List.nodup_nil
              · refine List.nodup_cons.2 ⟨fun hm => m.notI hj g5 ((m.fr j _ T e xs hj).2 _ hm).1, (m.fr j _ T e xs hj).1⟩
            refine ⟨List.nodup_append.2 ⟨hnd, n1, fun x hx y hy exy => ?_⟩, fun b hb => ?_⟩
            · subst exy
              obtain ⟨i, hi, hvi⟩ := n2 x hy
              exact hn'.1 ((hvia x hx).disj m hvi ▸ hi)
            · rcases List.mem_append.1 hb with hb | hb
              · exact ⟨j, List.mem_cons_self .., hvia b hb⟩
              · obtain ⟨i, hi, hvi⟩ := n2 b hb
                exact ⟨i, List.mem_cons_of_mem _ hi, hvi⟩
        · cases h
      | _ => cases h
end Go.Proofs.Ytfdpigafekohgaa

/- The abstract walk: a new array, and what goes into it is gone elsewhere. -/
namespace Go.Proofs.Ytfdpigafekohgaa
open Go.RowKit
set_option linter.unusedVariables false

def gones (js : List Nat) : Locs := js.map fun j => (j, none)
theorem lk_gones {js : List Nat} {l : Locs} {k : Nat} : lk (gones js ++ l) k = if k ∈ js then some none else lk l k := by
  induction js with
  | nil => simp [gones]
  | cons j js ih =>
    show lk ((j, none) :: (gones js ++ l)) k = _
    by_cases h : j = k
    · subst h; rw [lk_cons_self]; simp
    · rw [lk_cons_ne h, ih]
      by_cases h2 : k ∈ js
      · simp [h2]
      · have : ¬ k = j := fun e => h e.symm
        simp [h2, this]
theorem lkl_gones {js : List Nat} {l : Locs} {k : Nat} : lkl (gones js ++ l) k = if k ∈ js then none else lkl l k := by
  unfold lkl
  rw [lk_gones]
  by_cases h : k ∈ js <;> simp [h]

theorem ArrR.lay {I : Nat → Prop} {ρ : Nat → Nat} {hd : Nat → Value} {F : Nat → List Nat} {α : Type} {e : Enc α} {f : α → List Cell} [hc : CellsOf e f] {w : World} {k blk : Nat} {T : TypeId} {xs : List α} {d : Bool} {v : Value} {cells : List Value} {bs : List Nat}
    (h : w.ownsRow 0 T e.size v xs.length cells) (hf : FR w cells (xs.flatMap f) bs) (hI : ∀ b ∈ bs, I b) (hb : ∀ b, v.ownBlock = some b → b = blk ∧ ¬ I b) : ArrR ⟨I, setAt ρ k blk, setAt hd k v, setAt F k bs⟩ w k T e xs d := by
  refine ArrR.ofRow (cells := cells) (bs := bs) ?_ hf hI (fun _ => setAt_self) (fun b hb' => ?_)
  · show w.ownsRow 0 T e.size (setAt hd k v k) xs.length cells
    rw [setAt_self]; exact h
  · have h1 : (setAt hd k v k).ownBlock = some b := hb'
    rw [setAt_self] at h1
    obtain ⟨rfl, h2⟩ := hb b h1
    exact ⟨setAt_self.symm, h2⟩
section
variable {g : Gh} {l : Locs} {w w' : World}
/-- A new array k, in block blk; the arrays js are gone, those of them in fz lie in it unchanged. -/
theorem arr_new (m : MemR g l w) {k : Nat} (hk : lk l k = none) (hki : k ∉ l.ids) {js fz : List Nat} (hsub : ∀ j ∈ fz, j ∈ js) (hjs : ∀ j ∈ js, ∃ (α : Type) (T : TypeId) (e : Enc α) (xs : List α) (d : Bool), lkl l j = some (.arr T e xs d))
    {α : Type} {T : TypeId} {e : Enc α} {xs : List α} {d : Bool} {blk : Nat} {v : Value} {fp : List Nat}
    (hos : w'.os = w.os) (htp : w'.tape = w.tape) (hout : w'.output = w.output) (hs : w.heap.size ≤ w'.heap.size)
    (hkeep : ∀ b, b < w.heap.size → (∀ j ∈ js, j ∉ fz → g.hd j ≠ .slice none 0 0 → b ≠ g.ρ j) → w'.heap[b]? = w.heap[b]?)
    (hA : ArrR ⟨fun b => g.I b ∨ liveA g fz b, setAt g.ρ k blk, setAt g.hd k v, setAt g.F k fp⟩ w' k T e xs d)
    (hblk : v ≠ .slice none 0 0 → blk < w'.heap.size ∧ (w.heap.size ≤ blk ∨ ∃ j ∈ js, j ∉ fz ∧ g.hd j ≠ .slice none 0 0 ∧ blk = g.ρ j))
    (hfp : d = true → fp.Nodup ∧ ∀ b ∈ fp, (g.I b ∨ liveA g fz b) ∧ (∃ c t, w'.heap[b]? = some (.cells c t (0, 0))) ∧ ∃ j ∈ js, Via g l j b) :
    ∃ g', g'.ρ k = blk ∧ g'.hd k = v ∧ MemR g' ((k, some (.arr T e xs d)) :: (gones js ++ l)) w' ∧ (∀ K, Step K g l w g' ((k, some (.arr T e xs d)) :: (gones js ++ l)) w') ∧
      (∀ b, g.I b → w'.heap[b]? = w.heap[b]?) ∧ (∀ b, g.I b → g'.I b) ∧ ∀ j, j ≠ k → okK g l g' ((k, some (.arr T e xs d)) :: (gones js ++ l)) j := by
  let g' : Gh := ⟨fun b => g.I b ∨ liveA g fz b, setAt g.ρ k blk, setAt g.hd k v, setAt g.F k fp⟩
  have hkj : k ∉ js := fun h => by
    obtain ⟨_, _, _, _, _, h1⟩ := hjs k h
    have : lkl l k = none := by unfold lkl; rw [hk]
    rw [this] at h1; cases h1
  have hi : ∀ b, g.I b → w'.heap[b]? = w.heap[b]? := fun b hb => hkeep b (m.ilt b hb) fun j hj _ hl e => by
    obtain ⟨_, _, _, _, _, h1⟩ := hjs j hj
    exact m.notI h1 hl (e ▸ hb)
  have hl' : ∀ j, j ≠ k → lkl ((k, some (.arr T e xs d)) :: (gones js ++ l)) j = if j ∈ js then none else lkl l j := fun j hj => by
    rw [lkl_cons_ne (Ne.symm hj), lkl_gones]
  have hu : ∀ j, j ≠ k → lkl ((k, some (.arr T e xs d)) :: (gones js ++ l)) j = none ∨ Untouched g l w g' ((k, some (.arr T e xs d)) :: (gones js ++ l)) w' j := fun j hj => by
    by_cases h : j ∈ js
    · left; rw [hl' j hj, if_pos h]
    · right
      refine ⟨by rw [hl' j hj, if_neg h], setAt_ne hj, setAt_ne hj, setAt_ne hj, fun b hb hlv => ⟨hkeep _ (m.lt hb hlv) fun i hi' _ hil e => ?_, fun hI => ?_⟩⟩
      · obtain ⟨_, _, _, _, _, h1⟩ := hjs i hi'
        exact m.dis j i _ _ (fun e => h (e ▸ hi')) hb h1 hlv hil e
      · rcases hI with hI | ⟨i, hif, hil, e⟩
        · exact m.notI hb hlv hI
        · obtain ⟨_, _, _, _, _, h1⟩ := hjs i (hsub i hif)
          exact m.dis j i _ _ (fun e => h (e ▸ hsub i hif)) hb h1 hlv hil e
  have ok : ∀ j, j ≠ k → okK g l g' ((k, some (.arr T e xs d)) :: (gones js ++ l)) j := fun j hj => by
    rcases hu j hj with h | h
    · exact okK.gone h
    · exact h.ok
  have hlt : ∀ b, g'.I b → b < w'.heap.size := fun b hb => by
    rcases hb with hb | ⟨i, hif, hil, e⟩
    · exact Nat.lt_of_lt_of_le (m.ilt b hb) hs
    · obtain ⟨_, _, _, _, _, h1⟩ := hjs i (hsub i hif)
      rw [e]; exact Nat.lt_of_lt_of_le (m.lt h1 hil) hs
  refine ⟨g', setAt_self, setAt_self, m.set1 k hi (fun b hb => .inl hb) hs hlt hu (.inr hki) (fun cs hc => ?_) (fun β U e2 ys d2 hc => ?_) (fun j b b' hj h1 h2 h3 l1 l2 => ?_) (fun β U e2 ys hc => ?_) (fun j β γ U V e2 e3 ys zs hj h1 h2 h3 => ?_), fun K => ?_, hi, fun b hb => .inl hb, ok⟩
  · rw [lkl_cons_self] at hc; cases hc
  · rw [lkl_cons_self] at hc; cases hc; exact hA
  · rw [lkl_cons_self] at h3; cases h3
    have hv : v ≠ .slice none 0 0 := by have := l2; show v ≠ _; rw [← (setAt_self (f := g.hd) (k := k) (v := v))]; exact this
    rw [show g'.ρ k = blk from setAt_self]
    rcases (hblk hv).2 with h | ⟨i, hij, _, hil, e⟩
    · have := m.lt h2 l1; omega
    · obtain ⟨_, _, _, _, _, h4⟩ := hjs i hij
      rw [e]
      refine m.dis j i _ _ (fun e => ?_) h2 h4 l1 hil
      subst e
      rw [hl' j hj, if_pos hij] at h1; cases h1
  · rw [lkl_cons_self] at hc; cases hc
    rw [show g'.F k = fp from setAt_self]
    obtain ⟨n1, n2⟩ := hfp rfl
    exact ⟨n1, fun b hb => ⟨(n2 b hb).1, (n2 b hb).2.1⟩⟩
  · rw [lkl_cons_self] at h3; cases h3
    rw [show g'.F k = fp from setAt_self]
    intro b hb hb'
    obtain ⟨i, hij, hvia⟩ := ((hfp rfl).2 b hb').2.2
    have : j = i := Via.disj m (b := b) ⟨β, U, e2, ys, h2, .inr hb⟩ hvia
    subst this
    rw [hl' j hj, if_pos hij] at h1; cases h1
  · refine ⟨hos, htp, hout, hs, fun b hb hn => hkeep b hb fun j hj _ hl e => ?_, fun b hb => .inl hb, fun b hb => ?_, own_set1 k hu (fun b hb hl => ?_) (fun β U e2 ys hc b hb => ?_), fun j hj hn => ?_⟩
    · obtain ⟨_, _, _, _, _, h1⟩ := hjs j hj
      exact hn j _ h1 hl e
    · rcases hb with hb | ⟨i, hif, hil, e⟩
      · exact .inl hb
      · obtain ⟨_, _, _, _, _, h1⟩ := hjs i (hsub i hif)
        exact .inr (.inr (e ▸ OwnB.of_live h1 hil))
    · rw [lkl_cons_self] at hb; cases hb
      have hv : v ≠ .slice none 0 0 := by have := hl; rw [← (setAt_self (f := g.hd) (k := k) (v := v))]; exact this
      rw [show g'.ρ k = blk from setAt_self]
      rcases (hblk hv).2 with h | ⟨i, hij, _, hil, e⟩
      · exact .inr h
      · obtain ⟨_, _, _, _, _, h4⟩ := hjs i hij
        exact .inl (e ▸ OwnB.of_live h4 hil)
    · rw [lkl_cons_self] at hc; cases hc
      rw [show g'.F k = fp from setAt_self] at hb
      obtain ⟨i, hij, hvia⟩ := ((hfp rfl).2 b hb).2.2
      exact .inl hvia.own
    · have hjk := key_ne hn hk
      refine ⟨?_, ok j hjk, fun cs hc => ?_⟩
      · rw [lk_cons_ne (Ne.symm hjk), lk_gones]
        split
        · simp
        · exact hn
      · refine ⟨cs, ?_⟩
        rw [hl' j hjk, if_neg]
        · exact hc
        · intro hjj
          obtain ⟨_, _, _, _, _, h1⟩ := hjs j hjj
          rw [hc] at h1; cases h1
end

/-! ### Growing -/
/-- append to a row of one's own: the new row lies in the old block, or in a new one. -/
theorem run_app {P : Program} (w : World) (t ty e : TypeId) (i : TypeInfo) (z : Value) (size bytes : Nat) (ht : P.underlying t = some (.slice e)) (hi : P.info? e = some i) (hz : i.zero = some z)
    (hsize : i.size = size) (hby : i.bytes = bytes) (hzs : z.cells.size = size) (hsz : 0 < size)
    (v : Value) (n : Nat) (xs : List Value) (hown : w.ownsRow 0 e size v n xs)
    (a : Addr) (m c : Nat) (news : List Value) (hl : news.length = m * size) (hnews : ∀ j u, news[j]? = some u → w.cell? (a.add j) = some u) (h1 : ∀ u ∈ news, u.oneCell' = true)
    (h63 : n + m ≤ maxLen) (hbytes : (n + m) * bytes ≤ 140737488355328) :
    ∃ v' w', (Builtin.append_ #[t, t] ty #[v, .slice (some a) m c]).run P w = .ok v' w' ∧ w'.ownsRow 0 e size v' (n + m) (xs ++ news) ∧ w.grownBy w' v.ownBlock ∧
      ∀ b, v'.ownBlock = some b → v.ownBlock = some b ∨ w.heap.size ≤ b := by
  rcases hown.2 with ⟨rfl, rfl⟩ | ⟨g, cap, cur, rfl, hbg, hg, hnc, hcm, hcs, htake⟩
  · have h0 : w.ownsRow w.heap.size e size (.slice none 0 0) 0 xs := ⟨hown.1, .inl ⟨rfl, rfl⟩⟩
    obtain ⟨v', w', r1, r2, r3, _⟩ := run_append_own (P := P) w w.heap.size t ty e i z size bytes ht hi hz hsize hby hzs hsz _ _ _ h0 a m c news hl hnews h1 h63 hbytes (Nat.le_refl _)
    refine ⟨v', w', r1, ⟨r2.1, ?_⟩, r3, fun b hb => .inr (r2.lt b hb).1⟩
    rcases r2.2 with h | ⟨b, cap, cur, h2, _, h3⟩
    · exact .inl h
    · exact .inr ⟨b, cap, cur, h2, Nat.zero_le _, h3⟩
  · subst hsize
    subst hby
    by_cases hroom : n + m ≤ cap
    · have hfit : n * i.size + news.length ≤ cur.size := by rw [hl, hcs, ← Nat.add_mul]; exact Nat.mul_le_mul_right _ hroom
      obtain ⟨v', w', r1, r2, r3, _⟩ := run_append_own (P := P) w 0 t ty e i z i.size i.bytes ht hi hz rfl rfl hzs hsz _ _ _ hown a m c news hl hnews h1 h63 hbytes (Nat.zero_le _)
      have hr := run_append_room (P := P) w t ty e i ht hi g n cap cur hg a m c news hl hnews h1 hroom hfit
      rw [hr] at r1
      cases r1
      exact ⟨_, _, hr, r2, r3, fun b hb => .inl hb⟩
    · obtain ⟨v', w', r1, r2, r3, _⟩ := run_append_own (P := P) w 0 t ty e i z i.size i.bytes ht hi hz rfl rfl hzs hsz _ _ _ hown a m c news hl hnews h1 h63 hbytes (Nat.zero_le _)
      have holds : ∀ j u, xs[j]? = some u → w.cell? ((⟨g, 0, none⟩ : Addr).add j) = some u := hown.cells (g := g) rfl
      have hsmall : n + m ≤ 9223372036854775807 := by simp only [maxLen] at h63; omega
      have hr := run_append_grow (P := P) w t ty e i z ht hi hz ⟨g, 0, none⟩ n cap xs hown.1 holds a m c news hl hnews (by omega) (by omega) (growslice_fits (by omega) hbytes)
      rw [hr] at r1
      cases r1
      exact ⟨_, _, hr, r2, r3, fun b hb => .inr (by simp [Value.ownBlock] at hb; omega)⟩
/-- append of nothing. -/
theorem run_app_nil {P : Program} (w : World) (t ty e : TypeId) (i : TypeInfo) (ht : P.underlying t = some (.slice e)) (hi : P.info? e = some i) (base : Option Addr) (n cap : Nat) (hle : n ≤ cap) :
    (Builtin.append_ #[t, t] ty #[.slice base n cap, .slice none 0 0]).run P w = .ok (.slice base n cap) w := by
  cases base <;> simp [Builtin.append_, run_underlying ht, sizeOf, typeInfo, hi, Builtin.lenOf, Builtin.firstCells, loadCells, storeCells, hle]
end Go.Proofs.Ytfdpigafekohgaa

/- The abstract walk: rules for arrays of one's own. -/
namespace Go.Proofs.Ytfdpigafekohgaa
open Go.RowKit
set_option linter.unusedVariables false

def FitL : List Cell → List Cell → Prop
  | [], [] => True
  | c :: cs, d :: ds => (c = d ∨ (c = .c (.slice none 0 0) ∧ ∃ (α : Type) (e : Enc α), d = .sl e [])) ∧ FitL cs ds
  | _, _ => False
theorem FitL.rf : ∀ {cs : List Cell}, FitL cs cs
  | [] => trivial
  | c :: cs => ⟨.inl rfl, FitL.rf⟩
theorem FR.fit {w : World} : ∀ {vs : List Value} {cs ds : List Cell} {b : List Nat}, FR w vs cs b → FitL cs ds → FR w vs ds b
  | [], [], [], b, h, _ => h
  | v :: vs, c :: cs, d :: ds, b, h, hf => by
    obtain ⟨b1, b2, rfl, h1, h2⟩ := h
    refine ⟨b1, b2, rfl, ?_, FR.fit h2 hf.2⟩
    rcases hf.1 with rfl | ⟨rfl, α, e, rfl⟩
    · exact h1
    · obtain ⟨h3, _, rfl⟩ := h1
      exact ⟨none, 0, 0, h3, rfl, Nat.le_refl _, by unfold maxLen; omega, fun _ => rfl, .inl ⟨rfl, rfl⟩⟩
def noDup : List Nat → Bool
  | [] => true
  | j :: js => noId j js && noDup js
theorem noDup_of : ∀ {js : List Nat}, noDup js = true → js.Nodup
  | [], _ => List.nodup_nil
  | j :: js, h => by
    simp only [noDup, Bool.and_eq_true] at h
    exact List.nodup_cons.2 ⟨noId_of h.1, noDup_of h.2⟩
theorem mvC_of {l l' : Locs} : ∀ {cs : List Cell} {r : List Cell × List Nat × Bool}, mvC l cs = some r → (∀ p ∈ rlC l cs, lkl l' p.1 = some p.2) → mvC l' cs = some r
  | [], r, h, _ => h
  | c :: cs, r, h, hp => by
    have hp' : ∀ p ∈ rlC l cs, lkl l' p.1 = some p.2 := fun p hm => hp p (by
      unfold rlC at hm ⊢
      rw [List.flatMap_cons, List.filterMap_append]
      exact List.mem_append_right _ hm)
    simp only [mvC] at h ⊢
    split at h
    · cases h
    · rename_i ds js d h1
      rw [mvC_of h1 hp']
      cases c with
      | own j =>
        simp only at h ⊢
        split at h
        · rename_i T e xs q hj
          rw [rlC_get hp (List.mem_cons_self ..) (by simp [Cell.ids]) hj]
          exact h
        · cases h
      | _ => exact h
theorem mvC_gone {l : Locs} : ∀ {cs : List Cell} {ds : List Cell} {js : List Nat} {d : Bool}, mvC l cs = some (ds, js, d) → ∀ j ∈ js, (∃ (α : Type) (T : TypeId) (e : Enc α) (xs : List α) (q : Bool), lkl l j = some (.arr T e xs q)) ∧ j ∈ cs.flatMap Cell.ids
  | [], ds, js, d, h, j, hj => by
    simp only [mvC, Option.some.injEq, Prod.mk.injEq] at h
    obtain ⟨_, rfl, _⟩ := h
    cases hj
  | c :: cs, ds, js, d, h, j, hj => by
    have up : ∀ {i : Nat}, i ∈ cs.flatMap Cell.ids → i ∈ (c :: cs).flatMap Cell.ids := fun hi => by rw [List.flatMap_cons]; exact List.mem_append_right _ hi
    simp only [mvC] at h
    split at h
    · cases h
    · rename_i ds1 js1 d1 h1
      cases c with
      | c u =>
        simp only [Option.some.injEq, Prod.mk.injEq] at h
        obtain ⟨_, rfl, _⟩ := h
        exact ⟨(mvC_gone h1 j hj).1, up (mvC_gone h1 j hj).2⟩
      | sl e xs =>
        simp only [Option.some.injEq, Prod.mk.injEq] at h
        obtain ⟨_, rfl, _⟩ := h
        exact ⟨(mvC_gone h1 j hj).1, up (mvC_gone h1 j hj).2⟩
      | rx e x us b i =>
        simp only [Option.some.injEq, Prod.mk.injEq] at h
        obtain ⟨_, rfl, _⟩ := h
        exact ⟨(mvC_gone h1 j hj).1, up (mvC_gone h1 j hj).2⟩
      | own i =>
        simp only at h
        split at h
        · rename_i T e xs q hi
          simp only [Option.some.injEq, Prod.mk.injEq] at h
          obtain ⟨_, rfl, _⟩ := h
          rcases List.mem_cons.1 hj with rfl | hj
          · exact ⟨⟨_, T, e, xs, q, hi⟩, by rw [List.flatMap_cons]; exact List.mem_append_left _ (by simp [Cell.ids])⟩
          · exact ⟨(mvC_gone h1 j hj).1, up (mvC_gone h1 j hj).2⟩
        · cases h
      | _ => cases h

/-! The type of an array's elements. -/
def arrT (P : Program) (T : TypeId) : Option (TypeId × Nat × Nat) :=
  match P.underlying T with
  | some (.slice e) => match P.info? e with
    | some i => match i.zero with
      | some z => if z.cells.size = i.size ∧ 0 < i.size then some (e, i.size, i.bytes) else none
      | none => none
    | none => none
  | _ => none
theorem arrT_spec {P : Program} {T E n b : Nat} (h : arrT P T = some (E, n, b)) : P.underlying T = some (.slice E) ∧ 0 < n ∧ ∃ i z, P.info? E = some i ∧ i.zero = some z ∧ z.cells.size = n ∧ i.size = n ∧ i.bytes = b := by
  unfold arrT at h
  split at h
  · rename_i e hu
    split at h
    · rename_i i hi
      split at h
      · rename_i z hz
        split at h
        · rename_i hc
          cases h
          exact ⟨hu, hc.2, i, z, hi, hz, hc.1, rfl, rfl⟩
        · cases h
      · cases h
    · cases h
  · cases h

section
variable {g : Gh} {l : Locs} {w : World}
/-- The cells of some values. -/
theorem vr1s_cells : ∀ {vs : List Value} {Xs : List AVal}, (Xs.flatMap AVal.cells).all (solid l) = true → MemR g l w → All2 (VR g l w) vs Xs → flats Xs = true → All2 (CellR g l w) (vs.flatMap fun v => v.cells.toList) (Xs.flatMap AVal.cells)
  | [], [], _, _, _, _ => trivial
  | v :: vs, X :: Xs, hs, m, h, hf => by
    simp only [flats, Bool.and_eq_true] at hf
    rw [List.flatMap_cons, List.all_append, Bool.and_eq_true] at hs
    rw [List.flatMap_cons, List.flatMap_cons]
    exact (vr1_cells hs.1 m h.1 hf.1).app (vr1s_cells hs.2 m h.2 hf.2)
theorem vr1s_size {n : Nat} : ∀ {vs : List Value} {Xs : List AVal}, (Xs.flatMap AVal.cells).all (solid l) = true → MemR g l w → All2 (VR g l w) vs Xs → flats Xs = true → Xs.all (fun X => Nat.beq X.cells.length n) = true → ∀ v ∈ vs, v.cells.size = n
  | [], [], _, _, _, _, _, v, hv => by cases hv
  | v :: vs, X :: Xs, hs, m, h, hf, hn, u, hu => by
    simp only [flats, Bool.and_eq_true] at hf
    rw [List.flatMap_cons, List.all_append, Bool.and_eq_true] at hs
    simp only [List.all_cons, Bool.and_eq_true] at hn
    rcases List.mem_cons.1 hu with rfl | hu
    · have := (vr1_cells hs.1 m h.1 hf.1).len
      rw [Nat.eq_of_beq_eq_true hn.1] at this
      simpa using this
    · exact vr1s_size hs.2 m h.2 hf.2 hn.2 u hu
end

theorem FR.rows {α : Type} {e : Enc α} {f : α → List Cell} [hc : CellsOf e f] {w : World} : ∀ {xs : List α} {vs : List Value} {bs : List Nat}, FR w vs (xs.flatMap f) bs → vs.length = xs.length * e.size
  | [], [], bs, h => by simp
  | [], v :: vs, bs, h => h.elim
  | x :: xs, vs, bs, h => by
    rw [List.flatMap_cons] at h
    obtain ⟨v1, v2, b1, b2, rfl, rfl, h1, h2⟩ := FR.app.1 h
    rw [List.length_append, e.len (hc.iff.2 h1), FR.rows (e := e) h2, List.length_cons, Nat.add_mul]
    omega
section ops
variable {P : Program} {N : Nat} {s : St} {d : Nat} {ty : TypeId} {pos : String} {after : Array Edge} {gd : Option (Nat × Bool)}
/-- A new array with these elements. -/
theorem x_bslice {α : Type} {e : Enc α} {f : α → List Cell} [hc : CellsOf e f] {T E n b len : Nat} (ops : List Operand) {parts : Array (Nat × Operand)} {Xs : List AVal} (xs : List α) {ds : List Cell} {js : List Nat} {dp : Bool} (k : Nat) (hN : Nat.blt d N = true)
    (hparts : parts = ((ops.zipIdx 0).map fun x => (x.2, x.1)).toArray) (hev : evl s.t ops = some Xs) (hfl : flats Xs = true) (hsol : (Xs.flatMap AVal.cells).all (solid s.l) = true)
    (hT : arrT P T = some (E, n, b)) (hlen : ops.length = len) (hsz : Xs.all (fun X => Nat.beq X.cells.length n) = true) (hes : e.size = n)
    (hmv : mvC s.l (Xs.flatMap AVal.cells) = some (ds, js, dp)) (hfit : FitL ds (xs.flatMap f)) (hnd : noDup js = true) (hxs : xs.length = len) (hpos : Nat.blt 0 len = true) (hsmall : Nat.ble (len * n) 16777216 = true)
    (hk : lk s.l k = none) (hi : noId k s.ids = true) :
    Stp P N ⟨some d, .buildSlice T len parts, ty, pos, after, gd⟩ s ⟨(d, .one (.own k)) :: s.t, (k, some (.arr E e xs dp)) :: (gones js ++ s.l)⟩ ⟨rdl s.t ops, rlC s.l (Xs.flatMap AVal.cells), [(d, .one (.own k))], (k, some (.arr E e xs dp)) :: gones js, [k]⟩ := by
  refine ⟨fun K g s' a w hp r => ?_, ⟨(evl_ok (N := N) hev).1, rlC_self, fun j hj => by simp at hj; subst hj; exact ⟨hk, noId_of hi⟩⟩, by simp [Cert.upd]⟩
  obtain ⟨p1, p2, p3⟩ := hp
  have hvs := (evl_ok hev).2 r p1
  have hs' : (Xs.flatMap AVal.cells).all (solid s'.l) = true := List.all_eq_true.2 fun x hx => solid_of p2 hx (List.all_eq_true.1 hsol x hx)
  have hmv' := mvC_of hmv p2
  obtain ⟨n1, n2⟩ := p3 k (by simp)
  obtain ⟨hu, hn0, ti, z, hti, hz, hzs, htis, htib⟩ := arrT_spec hT
  have hA := vr1s_cells hs' r.mem hvs hfl
  have hS := vr1s_size hs' r.mem hvs hfl hsz
  have hjn := noDup_of hnd
  obtain ⟨bs, f1, f2, f3⟩ := mvC_ok r.mem hA hmv' hjn
  replace f1 := f1.fit hfit
  have hln : (ops.map a.eval).length = len := by simpa using hlen
  have hpos' : 0 < len := blt_lt hpos
  have hsm' : len * n ≤ 16777216 := Nat.le_of_ble_eq_true hsmall
  have hfill := Great.fill_whole (s := n) hn0 (ops.map a.eval) ((Array.range (len * n)).map (z.cells[· % z.cells.size]!)) hS (by rw [hln]; simp)
  have hrun := run_buildSlice (P := P) w T E len (parts.map fun (i, x) => (i, a.eval x)) _ ti z hu hti hz (by rw [htis]; omega) (by rw [htis]; have := Nat.mul_pos hpos' hn0; omega) (by
    rw [htis, hparts]
    have : (((ops.zipIdx 0).map fun x => (x.2, x.1)).toArray.map fun (x : Nat × Operand) => (x.1, a.eval x.2)).toList = ((ops.map a.eval).zipIdx 0).map fun x => (x.2, x.1) := by
      simp [List.zipIdx_map, Function.comp_def]
    exact (congrArg _ this).trans hfill)
  generalize hflat : ((ops.map a.eval).flatMap fun v => v.cells.toList) = flat at *
  have hfl2 : flat.length = len * n := by rw [FR.rows (e := e) f1, hxs, hes]
  have hrow : (w.alloc (.cells flat.toArray E)).ownsRow 0 E e.size (.slice (some ⟨w.heap.size, 0, none⟩) len len) xs.length flat :=
    ⟨by rw [hfl2, hxs, hes], .inr ⟨w.heap.size, len, flat.toArray, by rw [hxs], Nat.zero_le _, heap_alloc_new w _, by rw [hxs]; exact Nat.le_refl _, by
      have : len ≤ len * n := Nat.le_mul_of_pos_right _ hn0
      unfold maxLen; omega, by simp [hfl2, hes], by rw [hxs, hes, ← hfl2]; simp⟩⟩
  have hgone : ∀ j ∈ js, ∃ (α : Type) (T : TypeId) (e : Enc α) (xs : List α) (d : Bool), lkl s'.l j = some (.arr T e xs d) := fun j hj => (mvC_gone hmv' j hj).1
  have hkeep : ∀ b, b < w.heap.size → (w.alloc (.cells flat.toArray E)).heap[b]? = w.heap[b]? := fun b hb => Below.heap_alloc w _ b hb
  have hbl : ∀ b ∈ bs, b < w.heap.size := fun b hb => by
    rcases f2 b hb with h | ⟨j, hj, h1, h2⟩
    · exact r.mem.ilt b h
    · obtain ⟨_, _, _, _, _, h3⟩ := hgone j hj
      rw [h2]; exact r.mem.lt h3 h1
  have hkl : lkl s'.l k = none := by unfold lkl; rw [n1]
  obtain ⟨g', q1, q2, q3, q4, q5, q6, q7⟩ := arr_new (w' := w.alloc (.cells flat.toArray E)) r.mem n1 (fun h => n2 (List.mem_append_right _ h)) (js := js) (fz := js) (fun _ h => h) hgone (T := E) (e := e) (xs := xs) (d := dp) (blk := w.heap.size) (v := .slice (some ⟨w.heap.size, 0, none⟩) len len) (fp := bs)
    rfl rfl rfl (by simp) (fun b hb _ => hkeep b hb)
    (ArrR.lay hrow (f1.keep (fun b hb => hkeep b (hbl b hb)) (by simp)) f2 (fun b hb => by
      simp [Value.ownBlock] at hb
      subst hb
      refine ⟨rfl, fun hI => ?_⟩
      rcases hI with hI | ⟨j, hj, h1, h2⟩
      · have := r.mem.ilt _ hI; omega
      · obtain ⟨_, _, _, _, _, h3⟩ := hgone j hj
        have := r.mem.lt h3 h1; omega))
    (fun _ => ⟨by simp, .inl (Nat.le_refl _)⟩)
    (fun hd => ⟨(f3 hd).1, fun b hb => ⟨f2 b hb, by
      obtain ⟨j, hj, hv⟩ := (f3 hd).2 b hb
      obtain ⟨c, t, h⟩ := hv.cells r.mem
      exact ⟨c, t, by rw [hkeep b (hbl b hb)]; exact h⟩, (f3 hd).2 b hb⟩⟩)
  unfold Oper.wp
  have hrun' : (execOp a.eval ⟨some d, .buildSlice T len parts, ty, pos, after, gd⟩).run P w = .ok (.value (.slice (some ⟨w.heap.size, 0, none⟩) len len)) (w.alloc (.cells flat.toArray E)) := by
    simp only [execOp, Sem.run_bind, hrun, Result.andThen_ok]; rfl
  rw [hrun', Oper.upon_value]
  refine ⟨g', r.next (blt_lt hN) q5 q6 (by simp) (fun j hj => q7 j fun e => n2 (e ▸ hj)) (fun β U e2 ys dd hc => ?_) q3, q4 K⟩
  exact q2.symm
end ops
end Go.Proofs.Ytfdpigafekohgaa

/- The abstract walk: append; an empty array; a struct built; nil taken ars an array of one's own. -/
namespace Go.Proofs.Ytfdpigafekohgaa
open Go.RowKit
set_option linter.unusedVariables false

/-- What is appended: a value, ars cells read in the world. -/
def Src2 (w : World) (v : Value) (m size : Nat) (news : List Value) : Prop :=
  news.length = m * size ∧ ((v = .slice none 0 0 ∧ m = 0) ∨ ∃ a c, v = .slice (some a) m c ∧ ∀ j u, news[j]? = some u → w.cell? (a.add j) = some u)
theorem run_app2 {P : Program} (w : World) (t ty e : TypeId) (i : TypeInfo) (z : Value) (size bytes : Nat) (ht : P.underlying t = some (.slice e)) (hi : P.info? e = some i) (hz : i.zero = some z)
    (hsize : i.size = size) (hby : i.bytes = bytes) (hzs : z.cells.size = size) (hsz : 0 < size)
    (v : Value) (n : Nat) (xs : List Value) (hown : w.ownsRow 0 e size v n xs) (u : Value) (m : Nat) (news : List Value) (hsrc : Src2 w u m size news) (h1 : ∀ u ∈ news, u.oneCell' = true)
    (h63 : n + m ≤ maxLen) (hbytes : (n + m) * bytes ≤ 140737488355328) :
    ∃ v' w', (Builtin.append_ #[t, t] ty #[v, u]).run P w = .ok v' w' ∧ w'.ownsRow 0 e size v' (n + m) (xs ++ news) ∧ w.grownBy w' v.ownBlock ∧
      ∀ b, v'.ownBlock = some b → v.ownBlock = some b ∨ w.heap.size ≤ b := by
  rcases hsrc.2 with ⟨rfl, rfl⟩ | ⟨a, c, rfl, hc⟩
  · have hn : news = [] := List.eq_nil_of_length_eq_zero (by simpa using hsrc.1)
    subst hn
    have : ∃ base n' cap, v = .slice base n' cap ∧ n' ≤ cap := by
      rcases hown.2 with ⟨rfl, _⟩ | ⟨g, cap, cur, rfl, _, _, hnc, _⟩
      · exact ⟨none, 0, 0, rfl, Nat.le_refl _⟩
      · exact ⟨_, _, _, rfl, hnc⟩
    obtain ⟨base, n', cap, rfl, hle⟩ := this
    exact ⟨_, w, run_app_nil w t ty e i ht hi base n' cap hle, by simpa using hown, ⟨rfl, rfl, rfl, Nat.le_refl _, fun _ _ _ => rfl⟩, fun b hb => .inl hb⟩
  · exact run_app w t ty e i z size bytes ht hi hz hsize hby hzs hsz v n xs hown a m c news hsrc.1 hc h1 h63 hbytes
theorem src_of_row {w : World} {T : TypeId} {size n : Nat} {v : Value} {cells : List Value} (h : w.ownsRow 0 T size v n cells) : Src2 w v n size cells := by
  refine ⟨h.1, ?_⟩
  rcases h.2 with h1 | ⟨g, cap, cur, rfl, _⟩
  · exact .inl h1
  · exact .inr ⟨_, cap, rfl, h.cells rfl⟩
theorem src_of_slice {α : Type} {e : Enc α} {f : α → List Cell} [hc : CellsOf e f] {w : World} {a : Option Addr} {n cap : Nat} {xs : List α} {bs : List Nat} (h : SliceRep e w a n cap xs bs) :
    ∃ cells b2, Src2 w (.slice a n cap) xs.length e.size cells ∧ FR w cells (xs.flatMap f) b2 ∧ ∀ b ∈ b2, b ∈ bs := by
  obtain ⟨h1, h2, h3, h4, h5⟩ := h
  rcases h5 with ⟨rfl, rfl⟩ | ⟨g, off, bss, hne, rfl, hg, rfl, hE⟩
  · cases a with
    | none =>
      have := h4 rfl
      subst this
      simp at h1
      subst h1
      exact ⟨[], [], ⟨by simp, .inl ⟨rfl, rfl⟩⟩, rfl, fun _ hb => by cases hb⟩
    | some a =>
      simp at h1
      subst h1
      exact ⟨[], [], ⟨by simp, .inr ⟨a, cap, rfl, fun j u hu => by simp at hu⟩⟩, rfl, fun _ hb => by cases hb⟩
  · obtain ⟨vs, f1, f2, f3⟩ := hE.flat
    subst h1
    exact ⟨vs, bss.flatten, ⟨f2, .inr ⟨_, cap, rfl, fun j u hu => by rw [addr_add]; exact f3 j u hu⟩⟩, f1, fun b hb => List.mem_cons_of_mem _ hb⟩
theorem FR.nofp {α : Type} {e : Enc α} {f : α → List Cell} [hc : CellsOf e f] (he : ∀ w cs y b, e.rep w cs y b → b = []) {w : World} : ∀ {xs : List α} {vs : List Value} {bs : List Nat}, FR w vs (xs.flatMap f) bs → bs = []
  | [], [], bs, h => h
  | [], v :: vs, bs, h => h.elim
  | x :: xs, vs, bs, h => by
    rw [List.flatMap_cons] at h
    obtain ⟨v1, v2, b1, b2, rfl, rfl, h1, h2⟩ := FR.app.1 h
    rw [he _ _ _ _ (hc.iff.2 h1), FR.nofp he h2]; rfl
theorem flatMap_app {α : Type} {f : α → List Cell} {xs ys : List α} : (xs ++ ys).flatMap f = xs.flatMap f ++ ys.flatMap f := List.flatMap_append

section
variable {g : Gh} {l : Locs} {w w' : World}
/-- append ars it is seen from numbers: k grows into k', the numbers js (k among them) are gone. -/
theorem app_lay (m : MemR g l w) {k k' : Nat} (hk' : lk l k' = none) (hki : k' ∉ l.ids) {js : List Nat} (hkj : k ∈ js) (hjs : ∀ j ∈ js, ∃ (α : Type) (T : TypeId) (e : Enc α) (xs : List α) (d : Bool), lkl l j = some (.arr T e xs d))
    {α : Type} {E : TypeId} {e : Enc α} {f : α → List Cell} [hc : CellsOf e f] {xs ys : List α} {d : Bool} {cells news : List Value} {b1 b2 : List Nat} {v' : Value}
    (hF : FR w cells (xs.flatMap f) b1) (hF2 : FR w news (ys.flatMap f) b2) (hI : ∀ b ∈ b1 ++ b2, g.I b) (hob : ∀ b, (g.hd k).ownBlock = some b → b = g.ρ k)
    (hrow : w'.ownsRow 0 E e.size v' (xs.length + ys.length) (cells ++ news)) (hgr : w.grownBy w' (g.hd k).ownBlock) (hblk : ∀ b, v'.ownBlock = some b → (g.hd k).ownBlock = some b ∨ w.heap.size ≤ b)
    (hd : d = true → (b1 ++ b2).Nodup ∧ ∀ b ∈ b1 ++ b2, ∃ j ∈ js, Via g l j b) :
    ∃ g', g'.hd k' = v' ∧ MemR g' ((k', some (.arr E e (xs ++ ys) d)) :: (gones js ++ l)) w' ∧ (∀ K, Step K g l w g' ((k', some (.arr E e (xs ++ ys) d)) :: (gones js ++ l)) w') ∧
      (∀ b, g.I b → w'.heap[b]? = w.heap[b]?) ∧ (∀ b, g.I b → g'.I b) ∧ ∀ j, j ≠ k' → okK g l g' ((k', some (.arr E e (xs ++ ys) d)) :: (gones js ++ l)) j := by
  obtain ⟨α0, T0, e0, xs0, d0, hk0⟩ := hjs k hkj
  have hlive : ∀ b, (g.hd k).ownBlock = some b → g.hd k ≠ .slice none 0 0 := fun b hb e => by rw [e] at hb; cases hb
  have hnI : ∀ b, (g.hd k).ownBlock = some b → ¬ g.I b := fun b hb => by rw [hob b hb]; exact m.notI hk0 (hlive b hb)
  have hkeepI : ∀ b, g.I b → w'.heap[b]? = w.heap[b]? := fun b hb => hgr.block b (m.ilt b hb) fun e => hnI b e.symm hb
  have hFR := (FR.app.2 ⟨cells, news, b1, b2, rfl, rfl, hF, hF2⟩).keep (w' := w') (fun b hb => hkeepI b (hI b hb)) hgr.size
  rw [← flatMap_app] at hFR
  have hIb : ∀ b, v'.ownBlock = some b → ¬ (g.I b ∨ liveA g [] b) := fun b hb h => by
    rcases h with h | ⟨j, hj, _⟩
    · rcases hblk b hb with h1 | h1
      · exact hnI b h1 h
      · have := m.ilt b h; omega
    · cases hj
  obtain ⟨g', q1, q2, q3, q4, q5, q6, q7⟩ := arr_new (w' := w') m hk' hki (js := js) (fz := []) (fun _ h => by cases h) hjs (T := E) (e := e) (xs := xs ++ ys) (d := d) (blk := (v'.ownBlock).getD 0) (v := v') (fp := b1 ++ b2)
    hgr.os hgr.tape hgr.output hgr.size (fun b hb hn => hgr.block b hb fun e => hn k hkj (by simp) (hlive b e.symm) (hob b e.symm))
    (ArrR.lay (by rw [List.length_append]; exact hrow) hFR (fun b hb => .inl (hI b hb)) (fun b hb => ⟨by rw [hb]; rfl, hIb b hb⟩))
    (fun hv => by
      rcases hrow.2 with ⟨h1, _⟩ | ⟨b, cap, cur, h1, _, h3, _⟩
      · exact absurd h1 hv
      · have hb : v'.ownBlock = some b := by rw [h1]; rfl
        rw [hb]
        refine ⟨(Array.getElem?_eq_some_iff.1 h3).1, ?_⟩
        rcases hblk b hb with h | h
        · exact .inr ⟨k, hkj, by simp, hlive b h, hob b h⟩
        · exact .inl h)
    (fun hdd => ⟨(hd hdd).1, fun b hb => ⟨.inl (hI b hb), by
      obtain ⟨j, hj, hv⟩ := (hd hdd).2 b hb
      obtain ⟨c, t, h⟩ := hv.cells m
      exact ⟨c, t, by rw [hkeepI b (hI b hb)]; exact h⟩, (hd hdd).2 b hb⟩⟩)
  exact ⟨g', q2, q3, q4, q5, q6, q7⟩
end

section ops
variable {P : Program} {N : Nat} {s : St} {d : Nat} {ty : TypeId} {pos : String} {after : Array Edge} {gd : Option (Nat × Bool)}
theorem run_appop {P : Program} {N : Nat} {a : Act} {w w' : World} {v' : Value} {x y : Operand} {T : TypeId} (h : (Builtin.append_ #[T, T] ty #[a.eval x, a.eval y]).run P w = .ok v' w') :
    (execOp a.eval ⟨some d, .call { callee := .builtin .append, args := #[x, y], argTypes := #[T, T] }, ty, pos, after, gd⟩).run P w = .ok (.value v') w' := by
  simp only [execOp, resolve, invoke, builtin, Sem.run_bind, Sem.run_pure, Result.andThen_ok, List.map_toArray, List.map_cons, List.map_nil, h]
/-- append of an own array to another. -/
theorem x_append {α : Type} {e : Enc α} {f : α → List Cell} [hc : CellsOf e f] {T E n b : Nat} {x y : Operand} {xs ys : List α} {d1 d2 : Bool} {k j : Nat} (k' : Nat) (hN : Nat.blt d N = true)
    (h : evo s.t x = some (.one (.own k))) (h2 : evo s.t y = some (.one (.own j))) (hl : lkl s.l k = some (.arr E e xs d1)) (hl2 : lkl s.l j = some (.arr E e ys d2)) (hkj : Nat.beq k j = false)
    (hT : arrT P T = some (E, n, b)) (hes : e.size = n) (hk : lk s.l k' = none) (hi : noId k' s.ids = true) (hbnd : xs.length + ys.length ≤ 1000000000) (hb : Nat.ble b 100000 = true) :
    Stp P N ⟨some d, .call { callee := .builtin .append, args := #[x, y], argTypes := #[T, T] }, ty, pos, after, gd⟩ s ⟨(d, .one (.own k')) :: s.t, (k', some (.arr E e (xs ++ ys) (d1 && d2))) :: (gones [k, j] ++ s.l)⟩
      ⟨rdo x (.one (.own k)) ++ rdo y (.one (.own j)), [(k, .arr E e xs d1), (j, .arr E e ys d2)], [(d, .one (.own k'))], (k', some (.arr E e (xs ++ ys) (d1 && d2))) :: gones [k, j], [k']⟩ := by
  refine ⟨fun K g s' a w hp r => ?_, ⟨two_rd h h2, by simp [hl, hl2], fun j hj => by simp at hj; subst hj; exact ⟨hk, noId_of hi⟩⟩, by simp [Cert.upd]⟩
  obtain ⟨p1, p2, p3⟩ := hp
  have e1 : CellR g s'.l w (a.eval x) (.own k) := eval_ok r (evs_of h) fun p hp => p1 p (List.mem_append_left _ hp)
  have e2 : CellR g s'.l w (a.eval y) (.own j) := eval_ok r (evs_of h2) fun p hp => p1 p (List.mem_append_right _ hp)
  have hl' : lkl s'.l k = some (.arr E e xs d1) := p2 (k, .arr E e xs d1) (by simp)
  have hl2' : lkl s'.l j = some (.arr E e ys d2) := p2 (j, .arr E e ys d2) (by simp)
  replace e1 := e1 _ _ _ _ _ hl'
  replace e2 := e2 _ _ _ _ _ hl2'
  obtain ⟨n1, n2⟩ := p3 k' (by simp)
  obtain ⟨hu, hn0, ti, z, hti, hz, hzs, htis, htib⟩ := arrT_spec hT
  obtain ⟨cells, b1, r1, f1, i1, F1, ob1⟩ := (r.mem.arr k _ _ _ _ _ hl').row
  obtain ⟨news, b2, r2, f2, i2, F2, ob2⟩ := (r.mem.arr j _ _ _ _ _ hl2').row
  have hkj' : k ≠ j := fun e => by subst e; simp at hkj
  have hb' := Nat.le_of_ble_eq_true hb
  obtain ⟨v', w', q1, q2, q3, q4⟩ := run_app2 (P := P) w T ty E ti z e.size b hu hti hz (by rw [hes]; exact htis) htib (by rw [hes]; exact hzs) (by rw [hes]; exact hn0) _ _ _ r1 _ _ _ (src_of_row r2) (FR.one f2)
    (by unfold maxLen; omega) (by
      have : (xs.length + ys.length) * b ≤ 1000000000 * 100000 := Nat.mul_le_mul hbnd hb'
      omega)
  have hgone : ∀ i ∈ [k, j], ∃ (α : Type) (T : TypeId) (e : Enc α) (xs : List α) (d : Bool), lkl s'.l i = some (.arr T e xs d) := fun i hi => by
    simp at hi
    rcases hi with rfl | rfl
    · exact ⟨α, E, e, xs, d1, hl'⟩
    · exact ⟨α, E, e, ys, d2, hl2'⟩
  obtain ⟨g', s1, s2, s3, s4, s5, s6⟩ := app_lay (w' := w') r.mem n1 (fun h => n2 (List.mem_append_right _ h)) (js := [k, j]) (List.mem_cons_self ..) hgone (E := E) (e := e) (xs := xs) (ys := ys) (d := d1 && d2) f1 f2
    (fun b hb => (List.mem_append.1 hb).elim (i1 b) (i2 b)) ob1 q2 q3 q4 (fun hd => by
      simp only [Bool.and_eq_true] at hd
      obtain ⟨rfl, rfl⟩ := hd
      have v1 : ∀ b ∈ b1, Via g s'.l k b := fun b hb => ⟨α, E, e, xs, hl', .inr (by rw [F1 rfl]; exact hb)⟩
      have v2 : ∀ b ∈ b2, Via g s'.l j b := fun b hb => ⟨α, E, e, ys, hl2', .inr (by rw [F2 rfl]; exact hb)⟩
      refine ⟨List.nodup_append.2 ⟨by rw [← F1 rfl]; exact (r.mem.fr k _ _ _ _ hl').1, by rw [← F2 rfl]; exact (r.mem.fr j _ _ _ _ hl2').1, fun x hx y hy exy => ?_⟩, fun b hb => ?_⟩
      · subst exy
        exact hkj' ((v1 x hx).disj r.mem (v2 x hy))
      · rcases List.mem_append.1 hb with hb | hb
        · exact ⟨k, by simp, v1 b hb⟩
        · exact ⟨j, by simp, v2 b hb⟩)
  unfold Oper.wp
  rw [run_appop (N := N) (by rw [e1, e2]; exact q1), Oper.upon_value]
  refine ⟨g', r.next (blt_lt hN) s4 s5 q3.size (fun j hj => s6 j fun e => n2 (e ▸ hj)) (fun β U e2 ys dd hc => ?_) s2, s3 K⟩
  exact s1.symm
/-- append of a slice that nobody writes. -/
theorem x_append_sl {α : Type} {e : Enc α} {f : α → List Cell} [hc : CellsOf e f] {T E n b : Nat} {x y : Operand} {xs ys : List α} {d1 : Bool} {k : Nat} (k' : Nat) (d2 : Bool) (hd2 : d2 = false ∨ ∀ w cs y b, e.rep w cs y b → b = []) (hN : Nat.blt d N = true)
    (h : evo s.t x = some (.one (.own k))) (h2 : evo s.t y = some (.one (.sl e ys))) (hl : lkl s.l k = some (.arr E e xs d1))
    (hT : arrT P T = some (E, n, b)) (hes : e.size = n) (hk : lk s.l k' = none) (hi : noId k' s.ids = true) (hbnd : xs.length + ys.length ≤ 1000000000) (hb : Nat.ble b 100000 = true) :
    Stp P N ⟨some d, .call { callee := .builtin .append, args := #[x, y], argTypes := #[T, T] }, ty, pos, after, gd⟩ s ⟨(d, .one (.own k')) :: s.t, (k', some (.arr E e (xs ++ ys) (d1 && d2))) :: (gones [k] ++ s.l)⟩
      ⟨rdo x (.one (.own k)) ++ rdo y (.one (.sl e ys)), [(k, .arr E e xs d1)], [(d, .one (.own k'))], (k', some (.arr E e (xs ++ ys) (d1 && d2))) :: gones [k], [k']⟩ := by
  refine ⟨fun K g s' a w hp r => ?_, ⟨two_rd h h2, by simp [hl], fun j hj => by simp at hj; subst hj; exact ⟨hk, noId_of hi⟩⟩, by simp [Cert.upd]⟩
  obtain ⟨p1, p2, p3⟩ := hp
  have e1 : CellR g s'.l w (a.eval x) (.own k) := eval_ok r (evs_of h) fun p hp => p1 p (List.mem_append_left _ hp)
  obtain ⟨aa, nn, cap, bs, e2, hS, hSI⟩ : CellR g s'.l w (a.eval y) (.sl e ys) := eval_ok r (evs_of h2) fun p hp => p1 p (List.mem_append_right _ hp)
  have hl' : lkl s'.l k = some (.arr E e xs d1) := p2 (k, .arr E e xs d1) (by simp)
  replace e1 := e1 _ _ _ _ _ hl'
  obtain ⟨n1, n2⟩ := p3 k' (by simp)
  obtain ⟨hu, hn0, ti, z, hti, hz, hzs, htis, htib⟩ := arrT_spec hT
  obtain ⟨cells, b1, r1, f1, i1, F1, ob1⟩ := (r.mem.arr k _ _ _ _ _ hl').row
  obtain ⟨news, b2, r2, f2, i2⟩ := src_of_slice hS
  have hb' := Nat.le_of_ble_eq_true hb
  obtain ⟨v', w', q1, q2, q3, q4⟩ := run_app2 (P := P) w T ty E ti z e.size b hu hti hz (by rw [hes]; exact htis) htib (by rw [hes]; exact hzs) (by rw [hes]; exact hn0) _ _ _ r1 _ _ _ r2 (FR.one f2)
    (by unfold maxLen; omega) (by
      have : (xs.length + ys.length) * b ≤ 1000000000 * 100000 := Nat.mul_le_mul hbnd hb'
      omega)
  have hgone : ∀ i ∈ [k], ∃ (α : Type) (T : TypeId) (e : Enc α) (xs : List α) (d : Bool), lkl s'.l i = some (.arr T e xs d) := fun i hi => by
    simp at hi
    subst hi
    exact ⟨α, E, e, xs, d1, hl'⟩
  obtain ⟨g', s1, s2, s3, s4, s5, s6⟩ := app_lay (w' := w') r.mem n1 (fun h => n2 (List.mem_append_right _ h)) (js := [k]) (List.mem_cons_self ..) hgone (E := E) (e := e) (xs := xs) (ys := ys) (d := d1 && d2) f1 f2
    (fun b hb => (List.mem_append.1 hb).elim (i1 b) fun h => hSI b (i2 b h)) ob1 q2 q3 q4 (fun hd => by
      simp only [Bool.and_eq_true] at hd
      obtain ⟨rfl, rfl⟩ := hd
      have hb2 : b2 = [] := FR.nofp (e := e) (hd2.resolve_left (by simp)) f2
      subst hb2
      rw [List.append_nil]
      have v1 : ∀ b ∈ b1, Via g s'.l k b := fun b hb => ⟨α, E, e, xs, hl', .inr (by rw [F1 rfl]; exact hb)⟩
      exact ⟨by rw [← F1 rfl]; exact (r.mem.fr k _ _ _ _ hl').1, fun b hb => ⟨k, by simp, v1 b hb⟩⟩)
  unfold Oper.wp
  rw [run_appop (N := N) (by rw [e1, e2]; exact q1), Oper.upon_value]
  refine ⟨g', r.next (blt_lt hN) s4 s5 q3.size (fun j hj => s6 j fun e => n2 (e ▸ hj)) (fun β U e2 ys dd hc => ?_) s2, s3 K⟩
  exact s1.symm
end ops
end Go.Proofs.Ytfdpigafekohgaa

/- The abstract walk: a struct built from parts; an empty array; nil taken ars an array of one's own; results that lie in variables. -/
namespace Go.Proofs.Ytfdpigafekohgaa
open Go.RowKit
set_option linter.unusedVariables false

/-! ### A struct from parts -/
def setCs (cs : List Cell) (off : Nat) (xs : List Cell) : List Cell := cs.take off ++ (xs ++ cs.drop (off + xs.length))
def nthP : List (Nat × Nat) → Nat → Option (Nat × Nat)
  | [], _ => none
  | p :: _, 0 => some p
  | _ :: r, n + 1 => nthP r n
theorem nthP_get : ∀ {l : List (Nat × Nat)} {n : Nat}, nthP l n = l[n]?
  | [], n => by simp [nthP]
  | p :: l, 0 => rfl
  | _ :: r, n + 1 => by simpa [nthP] using nthP_get (l := r)
def bldA (places : List (Nat × Nat)) : List Cell → List Nat → List AVal → Option (List Cell)
  | cs, i :: is, X :: Xs => match nthP places i with
    | some (off, size) => match Nat.beq X.cells.length size, Nat.ble (off + size) cs.length with
      | true, true => bldA places (setCs cs off X.cells) is Xs
      | _, _ => none
    | none => none
  | cs, [], [] => some cs
  | _, _, _ => none
theorem fold_cells (off : Nat) (vs : List Value) (cs : Array Value) (h : off + vs.length ≤ cs.size) : (vs.toArray.zipIdx.foldl (fun cs (x : Value × Nat) => cs.setIfInBounds (off + x.2) x.1) cs).toList = cs.toList.take off ++ (vs ++ cs.toList.drop (off + vs.length)) := by
  obtain ⟨h1, h2⟩ := Great.foldl_set off vs 0 cs
  have e : (vs.toArray.zipIdx.foldl (fun cs (x : Value × Nat) => cs.setIfInBounds (off + x.2) x.1) cs) = ((vs.zipIdx 0).foldl (fun cs (x : Value × Nat) => cs.setIfInBounds (off + x.2) x.1) cs) := by simp
  rw [e]
  refine List.ext_getElem? fun k => ?_
  rw [Array.getElem?_toList, h2 k]
  simp only [Nat.add_zero]
  have hl : (cs.toList.take off).length = off := by simp; omega
  rcases Nat.lt_or_ge k off with hk | hk
  · rw [if_neg (by omega), List.getElem?_append_left (by omega), List.getElem?_take, if_pos hk]; simp
  · rw [List.getElem?_append_right (by omega), hl]
    rcases Nat.lt_or_ge k (off + vs.length) with hk2 | hk2
    · rw [if_pos ⟨hk, hk2, by omega⟩, List.getElem?_append_left (by omega)]
    · rw [if_neg (by omega), List.getElem?_append_right (by omega), List.getElem?_drop, show off + vs.length + (k - off - vs.length) = k by omega]; simp
theorem fill_bld {g : Gh} {l : Locs} {w : World} (m : MemR g l w) {places : List (Nat × Nat)} : ∀ {ps : List (Nat × Value)} {Xs : List AVal} {cells : Array Value} {cs ds : List Cell}, All2 (VR g l w) (ps.map (·.2)) Xs → flats Xs = true →
    (Xs.flatMap AVal.cells).all (solid l) = true → All2 (CellR g l w) cells.toList cs → bldA places cs (ps.map (·.1)) Xs = some ds → ∃ r, Instr.fill (places.toArray[·]?) cells ps = some r ∧ All2 (CellR g l w) r.toList ds
  | [], [], cells, cs, ds, _, _, _, hA, hb => by
    simp only [List.map_nil, bldA, Option.some.injEq] at hb
    subst hb
    exact ⟨cells, rfl, hA⟩
  | (i, v) :: ps, X :: Xs, cells, cs, ds, h, hf, hs, hA, hb => by
    simp only [flats, Bool.and_eq_true] at hf
    rw [List.flatMap_cons, List.all_append, Bool.and_eq_true] at hs
    have hv := vr1_cells hs.1 m h.1 hf.1
    simp only [List.map_cons, bldA] at hb
    split at hb
    · rename_i off size hp
      split at hb
      · rename_i h1 h2
        have h1 := Nat.eq_of_beq_eq_true h1
        have h2 := Nat.le_of_ble_eq_true h2
        have hvl : v.cells.toList.length = size := by rw [hv.len]; exact h1
        have hcl : cells.size = cs.length := by simpa using hA.len
        have hfc := fold_cells off v.cells.toList cells (by omega)
        have hA2 : All2 (CellR g l w) (v.cells.zipIdx.foldl (fun cs (x : Value × Nat) => cs.setIfInBounds (off + x.2) x.1) cells).toList (setCs cs off X.cells) := by
          have e : v.cells.toList.toArray = v.cells := by simp
          rw [e] at hfc
          rw [hfc]
          unfold setCs
          rw [← hv.len]
          exact (hA.take off).app (hv.app (hA.drop _))
        obtain ⟨r, r1, r2⟩ := fill_bld m h.2 hf.2 hs.2 hA2 hb
        refine ⟨r, ?_, r2⟩
        rw [nthP_get] at hp
        unfold Instr.fill
        simp only [List.getElem?_toArray, hp]
        rw [if_neg (by
          have : v.cells.size = size := by simpa using hvl
          simp [this]; omega)]
        simpa only [List.getElem?_toArray] using r1
      · cases hb
    · cases hb
def bldT (P : Program) (T : TypeId) : Option (List Value × List (Nat × Nat)) :=
  match P.info? T, P.underlying T with
  | some it, some (.struct fields) =>
    match it.zero, fields.toList.mapM (fun f => (P.info? f.type).map fun i => (f.offset, i.size)) with
    | some z, some places => some (z.cells.toList, places)
    | _, _ => none
  | _, _ => none
theorem bldT_spec {P : Program} {T : TypeId} {zs : List Value} {places : List (Nat × Nat)} (h : bldT P T = some (zs, places)) (parts : List (Nat × Value)) : P.built T parts = Instr.fill (places.toArray[·]?) zs.toArray parts := by
  unfold bldT at h
  split at h
  · rename_i it fields h1 h2
    split at h
    · rename_i z pl h3 h4
      cases h
      simp only [Program.built, h1, h2, h3, h4]
    · cases h
  · cases h
section ops
variable {P : Program} {N : Nat} {s : St} {d : Nat} {ty : TypeId} {pos : String} {after : Array Edge} {gd : Option (Nat × Bool)}
theorem x_build {T : TypeId} {parts : Array (Nat × Operand)} {zs : List Value} {places : List (Nat × Nat)} {Xs : List AVal} {cs ds : List Cell} (hN : Nat.blt d N = true) (hT : bldT P T = some (zs, places)) (hz : plainL zs = some cs)
    (hev : evl s.t (parts.toList.map (·.2)) = some Xs) (hfl : flats Xs = true) (hsol : (Xs.flatMap AVal.cells).all (solid s.l) = true) (hb : bldA places cs (parts.toList.map (·.1)) Xs = some ds) :
    Stp P N ⟨some d, .build T parts, ty, pos, after, gd⟩ s ⟨(d, .agg ds) :: s.t, s.l⟩ ⟨rdl s.t (parts.toList.map (·.2)), rlC s.l (Xs.flatMap AVal.cells), [(d, .agg ds)], [], []⟩ :=
  Stp.pure rfl hN (evl_ok (N := N) hev).1 rlC_self fun g s' a w p1 p2 r => by
    have hvs := (evl_ok hev).2 r p1
    have hs' : (Xs.flatMap AVal.cells).all (solid s'.l) = true := List.all_eq_true.2 fun x hx => solid_of p2 hx (List.all_eq_true.1 hsol x hx)
    have hps : (parts.toList.map fun x => (x.1, a.eval x.2)).map (·.2) = (parts.toList.map (·.2)).map a.eval := by simp
    have hps1 : (parts.toList.map fun x => (x.1, a.eval x.2)).map (·.1) = parts.toList.map (·.1) := by simp [Function.comp_def]
    obtain ⟨rr, r1, r2⟩ := fill_bld r.mem (ps := parts.toList.map fun x => (x.1, a.eval x.2)) (cells := zs.toArray) (by rw [hps]; exact hvs) hfl hs' (by simpa using plainL_ok hz) (by rw [hps1]; exact hb)
    have hrun := run_build (P := P) w T (parts.map fun (i, x) => (i, a.eval x)) rr (by
      rw [bldT_spec hT, Array.toList_map]
      exact r1)
    refine ⟨.agg rr, by simp only [execOp, Sem.run_bind, hrun, Result.andThen_ok]; rfl, rr.toList, by simp, r2⟩
/-- A new array with no element. -/
theorem x_bslice0 {α : Type} {e : Enc α} {f : α → List Cell} [hc : CellsOf e f] {T E n b : Nat} (k : Nat) (hN : Nat.blt d N = true) (hT : arrT P T = some (E, n, b)) (hk : lk s.l k = none) (hi : noId k s.ids = true) :
    Stp P N ⟨some d, .buildSlice T 0 #[], ty, pos, after, gd⟩ s ⟨(d, .one (.own k)) :: s.t, (k, some (.arr (α := α) E e [] true)) :: s.l⟩ ⟨[], [], [(d, .one (.own k))], [(k, some (.arr (α := α) E e [] true))], [k]⟩ := by
  refine ⟨fun K g s' a w hp r => ?_, ⟨by simp, by simp, fun j hj => by simp at hj; subst hj; exact ⟨hk, noId_of hi⟩⟩, rfl⟩
  obtain ⟨p1, p2, p3⟩ := hp
  obtain ⟨n1, n2⟩ := p3 k (by simp)
  obtain ⟨hu, hn0, ti, z, hti, hz, hzs, htis, htib⟩ := arrT_spec hT
  have hrun : (execOp a.eval ⟨some d, .buildSlice T 0 #[], ty, pos, after, gd⟩).run P w = .ok (.value (.slice (some ⟨w.heap.size, 0, none⟩) 0 0)) (w.alloc (.cells #[] E)) := by
    simp only [execOp, Instr.buildSlice, Sem.run_bind, run_underlying hu, sizeOf, typeInfo, Result.andThen_ok, Sem.run_pure]
    simp [Instr.fill, newRow, hti, show Array.range 0 = #[] from rfl]
  obtain ⟨g', q1, q2, q3, q4, q5, q6, q7⟩ := arr_new (w' := w.alloc (.cells #[] E)) r.mem n1 (fun h => n2 (List.mem_append_right _ h)) (js := []) (fz := []) (fun _ h => h) (fun j hj => by cases hj) (T := E) (e := e) (xs := ([] : List α)) (d := true) (blk := w.heap.size) (v := .slice (some ⟨w.heap.size, 0, none⟩) 0 0) (fp := [])
    rfl rfl rfl (by simp) (fun b hb _ => Below.heap_alloc w _ b hb)
    (ArrR.lay (cells := []) ⟨by simp, .inr ⟨w.heap.size, 0, #[], rfl, Nat.zero_le _, heap_alloc_new w _, Nat.le_refl _, by unfold maxLen; omega, by simp, by simp⟩⟩ (by rfl) (fun b hb => by cases hb) (fun b hb => by
      simp [Value.ownBlock] at hb
      subst hb
      refine ⟨rfl, fun hI => ?_⟩
      rcases hI with hI | ⟨j, hj, _⟩
      · have := r.mem.ilt _ hI; omega
      · cases hj))
    (fun _ => ⟨by simp, .inl (Nat.le_refl _)⟩) (fun _ => ⟨List.nodup_nil, fun b hb => by cases hb⟩)
  unfold Oper.wp
  rw [hrun, Oper.upon_value]
  refine ⟨g', r.next (blt_lt hN) q5 q6 (by simp) (fun j hj => q7 j fun e => n2 (e ▸ hj)) (fun β U e2 ys dd hc => ?_) q3, q4 K⟩
  exact q2.symm
end ops

/-! ### nil ars an array of one's own -/
section adopt
variable {P : Program} {N : Nat} {K : List Nat} {Kn : St → Prop} {Q : Exit → St → Prop} {s : St}
theorem nil_new {g : Gh} {l : Locs} {w : World} (m : MemR g l w) {k : Nat} (hk : lk l k = none) (hki : k ∉ l.ids) (α : Type) (T : TypeId) (e : Enc α) :
    ∃ g', g'.hd k = .slice none 0 0 ∧ MemR g' ((k, some (.arr (α := α) T e [] true)) :: l) w ∧ (∀ K, Step K g l w g' ((k, some (.arr (α := α) T e [] true)) :: l) w) ∧ (∀ b, g.I b → g'.I b) ∧ ∀ j, j ≠ k → okK g l g' ((k, some (.arr (α := α) T e [] true)) :: l) j := by
  obtain ⟨g', q1, q2, q3, q4, q5, q6, q7⟩ := arr_new (w' := w) m hk hki (js := []) (fz := []) (fun _ h => h) (fun j hj => by cases hj) (T := T) (e := e) (xs := ([] : List α)) (d := true) (blk := 0) (v := .slice none 0 0) (fp := [])
    rfl rfl rfl (Nat.le_refl _) (fun b hb _ => rfl) (.inl ⟨rfl, setAt_self, fun _ => setAt_self⟩) (fun h => absurd rfl h) (fun _ => ⟨List.nodup_nil, fun b hb => by cases hb⟩)
  exact ⟨g', q2, q3, q4, q6, q7⟩
/-- What a variable holds, said anew. -/
theorem box_re {g : Gh} {l : Locs} {w : World} (m : MemR g l w) {b : Nat} {cs cs' : List Cell} (hb : lkl l b = some (.box cs)) (h : ∀ vs, All2 (CellR g l w) vs cs → All2 (CellR g l w) vs cs') :
    MemR g ((b, some (.box cs')) :: l) w ∧ (∀ K, Step K g l w g ((b, some (.box cs')) :: l) w) ∧ ∀ j, okK g l g ((b, some (.box cs')) :: l) j := by
  obtain ⟨vs, t, h1, h2, h3⟩ := m.box b cs hb
  have h4 := box_set m hb (vs := vs.toList) (vs' := vs.toList) (T := t) (by simpa using h1) (h _ h2)
  have e : w.setRow (g.ρ b) vs.toList.toArray = w := by
    simp only [Array.toArray_toList]
    have hh : (w.setRow (g.ρ b) vs).heap = w.heap := Array.ext_getElem? fun i => by
      by_cases hi : i = g.ρ b
      · subst hi; rw [setRow_heap w _ _ _ t _ h1, h1]
      · exact setRow_other w _ i _ hi
    have h5 : w.setRow (g.ρ b) vs = { w with heap := (w.setRow (g.ρ b) vs).heap } := rfl
    rw [h5, hh]
  rw [e] at h4
  exact ⟨h4.1, h4.2.1, h4.2.2.2⟩
/-- A variable's cell that holds nil holds an array of one's own, with no element. -/
theorem AW_adopt {α : Type} {T : TypeId} {e : Enc α} {c : Code} (k b off : Nat) {cs cs' : List Cell} (hb : lkl s.l b = some (.box cs)) (hc : nthC cs off = some (.c (.slice none 0 0))) (hcs : cs.set off (.own k) = cs') (hk : lk s.l k = none) (hi : noId k s.ids = true)
    (h : AW P N K c Kn Q ⟨s.t, (b, some (.box cs')) :: (k, some (.arr (α := α) T e [] true)) :: s.l⟩) : AW P N K c Kn Q s := fun g a w r => by
  have hki := noId_of hi
  obtain ⟨g', q1, q2, q3, q4, q5⟩ := nil_new r.mem hk (fun h => hki (List.mem_append_right _ h)) α T e
  have hkb : k ≠ b := fun e => by subst e; unfold lkl at hb; rw [hk] at hb; cases hb
  have hb' : lkl ((k, some (.arr (α := α) T e [] true)) :: s.l) b = some (.box cs) := by rw [lkl_cons_ne hkb]; exact hb
  obtain ⟨m2, st2, ok2⟩ := box_re q2 hb' (cs' := cs') (fun vs hv => by
    obtain ⟨v, h1, h2⟩ := hv.get (nthC_get hc)
    have h3 := hv.set (i := off) (v := v) (x := .own k) (fun β U e2 ys dd hh => by
      rw [q1]; exact h2.1)
    rw [hcs] at h3
    have h4 : vs.set off v = vs := by
      obtain ⟨hl, rfl⟩ := List.getElem?_eq_some_iff.1 h1
      exact List.set_getElem_self hl
    rwa [h4] at h3)
  have r2 := r.next0 (g' := g') (l' := (b, some (.box cs')) :: (k, some (.arr (α := α) T e [] true)) :: s.l) (w' := w) (fun _ _ => rfl) q4 (Nat.le_refl _) (fun j hj => (q5 j fun e => hki (e ▸ hj)).trans (ok2 j)) m2
  exact Go.wp_mono (h g' a w r2) fun e a1 w1 h1 => h1.trans r.mem m2 ((q3 K).trans r.mem q2 (st2 K))
/-- .. a slot that holds nil. -/
theorem AW_adoptT {α : Type} {T : TypeId} {e : Enc α} {c : Code} (k t : Nat) (ht : lk s.t t = some (.one (.c (.slice none 0 0)))) (hk : lk s.l k = none) (hi : noId k s.ids = true)
    (h : AW P N K c Kn Q ⟨(t, .one (.own k)) :: s.t, (k, some (.arr (α := α) T e [] true)) :: s.l⟩) : AW P N K c Kn Q s := fun g a w r => by
  have hki := noId_of hi
  obtain ⟨g', q1, q2, q3, q4, q5⟩ := nil_new r.mem hk (fun h => hki (List.mem_append_right _ h)) α T e
  have r1 := r.next0 (g' := g') (l' := (k, some (.arr (α := α) T e [] true)) :: s.l) (w' := w) (fun _ _ => rfl) q4 (Nat.le_refl _) (fun j hj => q5 j fun e => hki (e ▸ hj)) q2
  have hv : VR g s.l w (a.tmps.getD t undef) (.one (.c (.slice none 0 0))) := r.tmp t _ ht
  have r2 : Rep N g' ⟨(t, .one (.own k)) :: s.t, (k, some (.arr (α := α) T e [] true)) :: s.l⟩ a w := ⟨r1.size, r1.defers, fun j x hj => by
    by_cases hjt : t = j
    · subst hjt
      rw [lk_cons_self] at hj; cases hj
      exact fun β U e2 ys dd hh => by rw [q1]; exact hv.1
    · rw [lk_cons_ne hjt] at hj
      exact r1.tmp j x hj, r1.mem⟩
  exact Go.wp_mono (h g' a w r2) fun e a1 w1 h1 => h1.trans r.mem q2 (q3 K)
end adopt

/-! ### Results in variables -/
section results
variable {P : Program} {f : FuncId} {fn : Func} {c : Code} {N : Nat} {args : List AVal} {L L' : Locs}
theorem AC_ofB {res : AVal} {T : Tmps} {Lf : Locs} (hf : P.funcs[f]? = some fn) (hb : fn.body = some c) (hn : (fn.name == "runtime.NumGoroutine") = false) (hN : fn.ntmps = N) (hA : Nat.ble args.length N = true)
    (hren : res.ren (rn []) = res) (hle : LeS (keys L) (rn []) ⟨T, Lf⟩ ⟨[], L'⟩)
    (hr : ∀ (g : Gh) (a : Act) (w : World), Rep N g ⟨T, Lf⟩ a w → ∃ v, (results fn a.tmps).run P w = .ok v w ∧ VR g Lf w v res)
    (h : AW P N (keys L) c (RetS (keys L) T Lf) (RetQ (keys L) T Lf) ⟨args0 args 0, L⟩) : AC P f args L res L' := by
  have h0 := AC_of (L' := Lf) hf hb hn hN hA hr h
  refine ⟨h0.fn, fun g w cargs m ha => (h0.run g w cargs m ha).mono ?_⟩
  rintro e w' ⟨v, g1, rfl, m1, hv, hs⟩
  exact ⟨v, g1.ren (rn []), rfl, m1.unren hle.l hle.inj, VR.unren hle.l (by rw [hren]; exact hv), hs.trans m m1 (Step.unren hle.l hle.k)⟩
theorem run_results_c {ty : TypeId} {r n k : Nat} {cs : List Cell} {T : Tmps} {Lf : Locs} {g : Gh} {a : Act} {w : World} (R : Rep N g ⟨T, Lf⟩ a w) (ht : lk T r = some (.one (.ptr k 0))) (hl : lkl Lf k = some (.box cs)) (hk : kindT P ty = some (some n)) (hn : cs.length = n) :
    ∃ ad v, (asAddr (a.tmps.getD r undef)).run P w = .ok ad w ∧ (loadVar ty ad).run P w = .ok v w ∧ VR1 g Lf w v (.agg cs) := by
  have hp : a.tmps.getD r undef = .pointer (some ⟨g.ρ k, 0, none⟩) := (R.tmp r _ ht : CellR g Lf w _ (.ptr k 0)) cs hl
  obtain ⟨vs, h1, h2, h3⟩ := box_loads R.mem hl (off := 0) (n := n) (xs := cs) (by rw [List.drop_zero, ← hn, List.take_length]) hn
  exact ⟨_, .agg vs.toArray, by rw [hp]; rfl, run_load_agg hk h1 h2, vs, rfl, h3⟩
theorem AC_bodyC {ty : TypeId} {r n k : Nat} {cs : List Cell} {T : Tmps} {Lf : Locs} (hf : P.funcs[f]? = some fn) (hb : fn.body = some c) (hn : (fn.name == "runtime.NumGoroutine") = false) (hN : fn.ntmps = N) (hA : Nat.ble args.length N = true) (hr : fn.results = #[.cell r ty])
    (ht : lk T r = some (.one (.ptr k 0))) (hl : lkl Lf k = some (.box cs)) (hk : kindT P ty = some (some n)) (hcn : cs.length = n) (hren : (AVal.agg cs).ren (rn []) = .agg cs) (hle : LeS (keys L) (rn []) ⟨T, Lf⟩ ⟨[], L'⟩)
    (h : AW P N (keys L) c (RetS (keys L) T Lf) (RetQ (keys L) T Lf) ⟨args0 args 0, L⟩) : AC P f args L (.agg cs) L' :=
  AC_ofB hf hb hn hN hA hren hle (fun g a w R => by
    obtain ⟨ad, v, h1, h2, h3⟩ := run_results_c R ht hl hk hcn
    refine ⟨v, ?_, h3⟩
    simp only [Array.getD_eq_getD_getElem?] at h1
    simp [results, hr, h1, h2]) h
theorem AC_bodyCT {ty : TypeId} {r q n k : Nat} {cs : List Cell} {x : AVal} {T : Tmps} {Lf : Locs} (hf : P.funcs[f]? = some fn) (hb : fn.body = some c) (hn : (fn.name == "runtime.NumGoroutine") = false) (hN : fn.ntmps = N) (hA : Nat.ble args.length N = true) (hr : fn.results = #[.cell r ty, .tmp q])
    (ht : lk T r = some (.one (.ptr k 0))) (hq : lk T q = some x) (hx : x.flat = true) (hl : lkl Lf k = some (.box cs)) (hk : kindT P ty = some (some n)) (hcn : cs.length = n) (hren : (AVal.tup [.agg cs, x]).ren (rn []) = .tup [.agg cs, x]) (hle : LeS (keys L) (rn []) ⟨T, Lf⟩ ⟨[], L'⟩)
    (h : AW P N (keys L) c (RetS (keys L) T Lf) (RetQ (keys L) T Lf) ⟨args0 args 0, L⟩) : AC P f args L (.tup [.agg cs, x]) L' :=
  AC_ofB hf hb hn hN hA hren hle (fun g a w R => by
    obtain ⟨ad, v, h1, h2, h3⟩ := run_results_c R ht hl hk hcn
    refine ⟨.tuple #[v, a.tmps.getD q undef], ?_, ⟨[v, a.tmps.getD q undef], rfl, h3, (R.tmp q x hq).vr1 hx, trivial⟩⟩
    simp only [Array.getD_eq_getD_getElem?] at h1
    simp [results, hr, h1, h2]) h
end results
end Go.Proofs.Ytfdpigafekohgaa

/- The abstract walk: calls that lend and leave; rules with the element's size found by the kernel. -/
namespace Go.Proofs.Ytfdpigafekohgaa
open Go.RowKit
set_option linter.unusedVariables false

def arrOk (P : Program) (T E n : Nat) : Bool := match arrT P T with
  | some (E', n', b) => Nat.beq E' E && Nat.beq n' n && Nat.ble b 100000
  | none => false
theorem arrOk_spec {P : Program} {T E n : Nat} (h : arrOk P T E n = true) : ∃ b, arrT P T = some (E, n, b) ∧ Nat.ble b 100000 = true := by
  unfold arrOk at h
  split at h
  · rename_i E' n' b hT
    simp only [Bool.and_eq_true] at h
    obtain ⟨⟨h1, h2⟩, h3⟩ := h
    have h1 := Nat.eq_of_beq_eq_true h1
    have h2 := Nat.eq_of_beq_eq_true h2
    subst h1; subst h2
    exact ⟨b, hT, h3⟩
  · cases h
section ops
variable {P : Program} {N : Nat} {s : St} {d : Nat} {ty : TypeId} {pos : String} {after : Array Edge} {gd : Option (Nat × Bool)}
theorem y_append {α : Type} {e : Enc α} {f : α → List Cell} [hc : CellsOf e f] {T E : Nat} {x y : Operand} {xs ys : List α} {d1 d2 : Bool} {k j : Nat} (k' : Nat) (hN : Nat.blt d N = true)
    (h : evo s.t x = some (.one (.own k))) (h2 : evo s.t y = some (.one (.own j))) (hl : lkl s.l k = some (.arr E e xs d1)) (hl2 : lkl s.l j = some (.arr E e ys d2)) (hkj : Nat.beq k j = false)
    (hk : lk s.l k' = none) (hi : noId k' s.ids = true) (hT : arrOk P T E e.size = true) (hbnd : xs.length + ys.length ≤ 1000000000) :
    Stp P N ⟨some d, .call { callee := .builtin .append, args := #[x, y], argTypes := #[T, T] }, ty, pos, after, gd⟩ s ⟨(d, .one (.own k')) :: s.t, (k', some (.arr E e (xs ++ ys) (d1 && d2))) :: (gones [k, j] ++ s.l)⟩
      ⟨rdo x (.one (.own k)) ++ rdo y (.one (.own j)), [(k, .arr E e xs d1), (j, .arr E e ys d2)], [(d, .one (.own k'))], (k', some (.arr E e (xs ++ ys) (d1 && d2))) :: gones [k, j], [k']⟩ := by
  obtain ⟨b, h3, h4⟩ := arrOk_spec hT
  exact x_append k' hN h h2 hl hl2 hkj h3 rfl hk hi hbnd h4
theorem y_append_sl {α : Type} {e : Enc α} {f : α → List Cell} [hc : CellsOf e f] {T E : Nat} {x y : Operand} {xs ys : List α} {d1 : Bool} {k : Nat} (k' : Nat) (d2 : Bool) (hd2 : d2 = false ∨ ∀ w cs y b, e.rep w cs y b → b = []) (hN : Nat.blt d N = true)
    (h : evo s.t x = some (.one (.own k))) (h2 : evo s.t y = some (.one (.sl e ys))) (hl : lkl s.l k = some (.arr E e xs d1)) (hk : lk s.l k' = none) (hi : noId k' s.ids = true) (hT : arrOk P T E e.size = true) (hbnd : xs.length + ys.length ≤ 1000000000) :
    Stp P N ⟨some d, .call { callee := .builtin .append, args := #[x, y], argTypes := #[T, T] }, ty, pos, after, gd⟩ s ⟨(d, .one (.own k')) :: s.t, (k', some (.arr E e (xs ++ ys) (d1 && d2))) :: (gones [k] ++ s.l)⟩
      ⟨rdo x (.one (.own k)) ++ rdo y (.one (.sl e ys)), [(k, .arr E e xs d1)], [(d, .one (.own k'))], (k', some (.arr E e (xs ++ ys) (d1 && d2))) :: gones [k], [k']⟩ := by
  obtain ⟨b, h3, h4⟩ := arrOk_spec hT
  exact x_append_sl k' d2 hd2 hN h h2 hl h3 rfl hk hi hbnd h4
theorem y_bslice0 {α : Type} {e : Enc α} {f : α → List Cell} [hc : CellsOf e f] {T E : Nat} (k : Nat) (hN : Nat.blt d N = true) (hk : lk s.l k = none) (hi : noId k s.ids = true) (hT : arrOk P T E e.size = true) :
    Stp P N ⟨some d, .buildSlice T 0 #[], ty, pos, after, gd⟩ s ⟨(d, .one (.own k)) :: s.t, (k, some (.arr (α := α) E e [] true)) :: s.l⟩ ⟨[], [], [(d, .one (.own k))], [(k, some (.arr (α := α) E e [] true))], [k]⟩ := by
  obtain ⟨b, h3, h4⟩ := arrOk_spec hT
  exact x_bslice0 (f := f) k hN h3 hk hi
theorem y_bslice {α : Type} {e : Enc α} {f : α → List Cell} [hc : CellsOf e f] {T E len : Nat} (ops : List Operand) {parts : Array (Nat × Operand)} {Xs : List AVal} (xs : List α) {ds : List Cell} {js : List Nat} {dp : Bool} (k : Nat) (hN : Nat.blt d N = true)
    (hparts : parts = ((ops.zipIdx 0).map fun x => (x.2, x.1)).toArray) (hev : evl s.t ops = some Xs) (hfl : flats Xs = true) (hsol : (Xs.flatMap AVal.cells).all (solid s.l) = true)
    (hlen : ops.length = len) (hsz : Xs.all (fun X => Nat.beq X.cells.length e.size) = true)
    (hmv : mvC s.l (Xs.flatMap AVal.cells) = some (ds, js, dp)) (hfit : FitL ds (xs.flatMap f)) (hnd : noDup js = true) (hxs : xs.length = len) (hpos : Nat.blt 0 len = true) (hsmall : Nat.ble (len * e.size) 16777216 = true)
    (hk : lk s.l k = none) (hi : noId k s.ids = true) (hT : arrOk P T E e.size = true) :
    Stp P N ⟨some d, .buildSlice T len parts, ty, pos, after, gd⟩ s ⟨(d, .one (.own k)) :: s.t, (k, some (.arr E e xs dp)) :: (gones js ++ s.l)⟩ ⟨rdl s.t ops, rlC s.l (Xs.flatMap AVal.cells), [(d, .one (.own k))], (k, some (.arr E e xs dp)) :: gones js, [k]⟩ := by
  obtain ⟨b, h3, h4⟩ := arrOk_spec hT
  exact x_bslice ops xs k hN hparts hev hfl hsol h3 hlen hsz rfl hmv hfit hnd hxs hpos hsmall hk hi
/-! calls -/
def newOk (s : St) (ks : List Nat) : Bool := ks.all fun k => (match lk s.l k with | none => true | some _ => false) && noId k s.ids
theorem newOk_of {s : St} {ks : List Nat} (h : newOk s ks = true) : ∀ k ∈ ks, lk s.l k = none ∧ k ∉ s.ids := fun k hk => by
  have h1 := List.all_eq_true.1 h k hk
  simp only [Bool.and_eq_true] at h1
  refine ⟨?_, noId_of h1.2⟩
  have h2 := h1.1
  split at h2
  · assumption
  · cases h2
/-- A call that lends the blocks L and leaves the blocks L'. -/
theorem x_call {fo : Operand} {f : FuncId} {ks : List Nat} {ars : Array Operand} {ats : Array TypeId} {xs ys : List AVal} {L L' : Locs} {res : AVal} (hN : Nat.blt d N = true) (hev : evo s.t fo = some (.one (.clo f ks)))
    (hxs : evl s.t ars.toList = some xs) (hac : AC P f ys L res L') (hfl : flats xs = true) (hle : AllV (xs ++ caps ks) ys) (hks : ∀ k ∈ ks, ∃ cs, (k, some (Blk.box cs)) ∈ L) (hLs : okL L = true) (hsc : closedIn (keys L') L'.ids = true) (hsr : closedIn (keys L') res.ids = true)
    (hsub : sub s.l L) (hnew : newOk s (newOf L L') = true) :
    Stp P N ⟨some d, .call { callee := .value fo, args := ars, argTypes := ats }, ty, pos, after, gd⟩ s ⟨(d, res) :: s.t, L' ++ (goneL L ++ s.l)⟩ ⟨rdo fo (.one (.clo f ks)) ++ rdl s.t ars.toList, rlOf L, [(d, res)], L' ++ goneL L, newOf L L'⟩ :=
  ⟨OpOK.call rfl rfl (blt_lt hN) hev hxs hfl hac hle hks hLs hsc hsr, ⟨fun p hp => by
      rcases List.mem_append.1 hp with hp | hp
      · exact rdo_of hev p hp
      · exact (evl_ok (N := N) hxs).1 p hp, sub_rlOf hsub, newOk_of hnew⟩, by simp [Cert.upd, List.append_assoc]⟩
/-- .. that lends nothing and leaves one array. -/
theorem x_call1 {fo : Operand} {f : FuncId} {ars : Array Operand} {ats : Array TypeId} {xs : List AVal} {k : Nat} {b : Option Blk} {res : AVal} (hN : Nat.blt d N = true) (hev : evo s.t fo = some (.one (.clo f [])))
    (hxs : evl s.t ars.toList = some xs) (hac : AC P f xs [] res [(k, b)]) (hfl : flats xs = true) (hsc : closedIn [k] (Locs.ids [(k, b)]) = true) (hsr : closedIn [k] res.ids = true) (hnew : newOk s [k] = true) :
    Stp P N ⟨some d, .call { callee := .value fo, args := ars, argTypes := ats }, ty, pos, after, gd⟩ s ⟨(d, res) :: s.t, (k, b) :: s.l⟩ ⟨rdo fo (.one (.clo f [])) ++ rdl s.t ars.toList, [], [(d, res)], [(k, b)], [k]⟩ :=
  x_call (L := []) (L' := [(k, b)]) hN hev hxs hac hfl (by rw [show caps [] = [] from rfl, List.append_nil]; exact AllV.rf) (fun k hk => by cases hk) rfl hsc hsr trivial hnew
end ops
theorem ble_eq {b b' : Blk} (h : b = b') : BLe b b' := .inl h
theorem BLe.arr {α : Type} {T : TypeId} {e : Enc α} {xs ys : List α} {d : Bool} (h : xs = ys) : BLe (.arr T e xs d) (.arr T e ys d) := by subst h; exact BLe.rf
/-- The array that is left, under another number. -/
theorem AC.at {P : Program} {f : FuncId} {args : List AVal} {res : AVal} {b : Blk} (h : AC P f args [] (res.ren fun _ => 0) [(0, some (b.ren fun _ => 0))]) (k : Nat) : AC P f args [] res [(k, some b)] :=
  ⟨h.fn, fun g w cargs m ha => (h.run g w cargs m ha).mono (by
    rintro e w' ⟨v, g1, rfl, m1, hv, hs⟩
    have hL : LeL (fun _ => 0) [(0, some (b.ren fun _ => 0))] [(k, some b)] := ⟨⟨_, rfl, BLe.rf⟩, trivial⟩
    have hi : injL (fun _ => 0) (keys [(k, some b)]) = true := by simp [injL, keys]
    exact ⟨v, g1.ren fun _ => 0, rfl, m1.unren hL hi, VR.unren hL hv, hs.trans m m1 (Step.unren hL trivial)⟩)⟩
/-- The arrays that are left, under other numbers. -/
theorem AC.renum {P : Program} {f : FuncId} {args : List AVal} {res : AVal} {L0 L : Locs} {r : Nat → Nat} (h : AC P f args [] (res.ren r) L0) (hL : LeL r L0 L) (hi : injL r (keys L) = true) : AC P f args [] res L :=
  ⟨h.fn, fun g w cargs m ha => (h.run g w cargs m ha).mono (by
    rintro e w' ⟨v, g1, rfl, m1, hv, hs⟩
    exact ⟨v, g1.ren r, rfl, m1.unren hL hi, VR.unren hL hv, hs.trans m m1 (Step.unren hL trivial)⟩)⟩
end Go.Proofs.Ytfdpigafekohgaa

/- A contract that takes arrays and leaves others, under other numbers. -/
namespace Go.Proofs.Ytfdpigafekohgaa
open Go.RowKit
set_option linter.unusedVariables false

theorem all2_unren {r : Nat → Nat} {l L : Locs} {g : Gh} {w : World} (hL : LeL r l L) : ∀ {vs : List Value} {xs : List AVal}, All2 (VR1 g l w) vs (xs.map (AVal.ren1 r)) → All2 (VR1 (g.ren r) L w) vs xs
  | [], [], _ => trivial
  | v :: vs, x :: xs, h => ⟨VR1.unren hL h.1, all2_unren hL h.2⟩
  | [], _ :: _, h => by cases h
  | _ :: _, [], h => by cases h
/-- A contract that takes the blocks L: what becomes of them is not told. -/
structure AT (P : Program) (f : FuncId) (args : List AVal) (L : Locs) (res : AVal) (L' : Locs) : Prop where
  fn : Callable P f
  run : ∀ (g : Gh) (w : World) (cargs : Array Value), MemR g L w → All2 (VR1 g L w) cargs.toList args →
    Calls P f cargs w fun e w' => ∃ v g', e = .returned v ∧ MemR g' L' w' ∧ VR g' L' w' v res ∧ Step [] g L w g' L' w'
section body
variable {P : Program} {N : Nat} {f : FuncId} {fn : Func} {c : Code} {args : List AVal} {L L' : Locs}
end body
/-- The lent blocks l are all gone behind the call. -/
theorem AT.lend {P : Program} {f : FuncId} {args : List AVal} {L L' l l' : Locs} {res' : AVal} (r s : Nat → Nat) (h : AT P f args L (res'.ren s) L') (hL : LeL r l L) (hi : injL r (keys L) = true) (hL' : LeL s L' l') (hi' : injL s (keys l') = true)
    (hg : ∀ k ∈ keys l, lk l' k = some none) (hb : ∀ k cs, lkl l k ≠ some (.box cs)) : AC P f (args.map (AVal.ren1 r)) l res' l' :=
  ⟨h.fn, fun g w cargs m ha => (h.run (g.ren r) w cargs (m.unren hL hi) (all2_unren hL ha)).mono (by
    rintro e w' ⟨v, g1, rfl, m1, hv, hs⟩
    have m0 := m.unren hL hi
    have A : Step [] g l w (g.ren r) L w := Step.unren hL trivial
    have B : Step [] (g.ren r) L w g1 L' w' := hs
    have C : Step [] g1 L' w' (g1.ren s) l' w' := Step.unren hL' trivial
    have T := (A.trans m m0 B).trans m m1 C
    refine ⟨v, g1.ren s, rfl, m1.unren hL' hi', VR.unren hL' hv, { T with base := fun k hk hn => ?_ }⟩
    have h1 := hg k hk
    have h2 : lkl l' k = none := by unfold lkl; rw [h1]
    exact ⟨by rw [h1]; simp, okK.gone h2, fun cs hc => absurd hc (hb k cs)⟩)⟩
end Go.Proofs.Ytfdpigafekohgaa

/- Texts and bytes in the abstract walk: the bytes of a text, appended. -/
namespace Go.Proofs.Ytfdpigafekohgaa
open Go.RowKit
set_option linter.unusedVariables false

theorem u8_fine (b : UInt8) : (Lit.int .u8 (b.toNat : Int)).wf = true := by
  have := b.toNat_lt
  simp only [Lit.wf, Bool.and_eq_true, decide_eq_true_eq]
  have h1 : IntKind.u8.min = 0 := rfl
  have h2 : IntKind.u8.max = 255 := rfl
  rw [h1, h2]; omega
theorem FR.bytes {w : World} : ∀ (l : List UInt8), FR w (l.map fun b => Value.int .u8 b.toNat) ((l.map fun b => (b.toNat : Int)).flatMap fun n => [Cell.c (.int .u8 n)]) []
  | [] => rfl
  | b :: l => ⟨[], [], rfl, ⟨rfl, u8_fine b, rfl⟩, FR.bytes l⟩
section ops
variable {P : Program} {N : Nat} {s : St} {d : Nat} {ty : TypeId} {pos : String} {after : Array Edge} {gd : Option (Nat × Bool)}
end ops
end Go.Proofs.Ytfdpigafekohgaa

/- The abstract walk: own arrays are read by a callee; own arrays are given up to be read alone. -/
namespace Go.Proofs.Ytfdpigafekohgaa
open Go.RowKit
set_option linter.unusedVariables false

/-- A part of a slice. -/
theorem SliceRep.part {α : Type} {e : Enc α} {w : World} {a : Option Addr} {n cap : Nat} {xs : List α} {bs : List Nat} (h : SliceRep e w a n cap xs bs) {lo hi : Nat} (h1 : lo ≤ hi) (h2 : hi ≤ xs.length) :
    ∃ bs', SliceRep e w (if cap = lo then a else a.map (·.add (lo * e.size))) (hi - lo) (cap - lo) ((xs.drop lo).take (hi - lo)) bs' ∧ ∀ b ∈ bs', b ∈ bs := by
  obtain ⟨rfl, g1, g2, g3, g4⟩ := h
  by_cases he : lo = hi
  · subst he
    refine ⟨[], ⟨by simp, by omega, by omega, fun hn => ?_, .inl ⟨by simp, rfl⟩⟩, fun b hb => by cases hb⟩
    split at hn
    · omega
    · cases a with
      | none => have := g3 rfl; omega
      | some a => cases hn
  · have hne : xs ≠ [] := by intro e; subst e; simp at h2; omega
    rcases g4 with ⟨rfl, _⟩ | ⟨g, off, bss, _, rfl, hg, rfl, hE⟩
    · exact absurd rfl hne
    · have hc : ¬ cap = lo := by omega
      refine ⟨g :: ((bss.drop lo).take (hi - lo)).flatten, ⟨by simp; omega, by omega, by omega, fun hn => ?_, .inr ⟨g, off + lo * e.size, (bss.drop lo).take (hi - lo), ?_, ?_, hg, rfl, ?_, ?_⟩⟩, fun b hb => ?_⟩
      · rw [if_neg hc] at hn; cases hn
      · intro e0; have := congrArg List.length e0; simp at this; omega
      · rw [if_neg hc]; simp [addr_add]
      · simp [hE.1]
      · intro i x b hx hb
        rw [List.getElem?_take] at hx hb
        split at hx
        · rename_i hi
          rw [if_pos hi] at hb
          rw [List.getElem?_drop] at hx hb
          obtain ⟨cs, q1, q2⟩ := hE.2 (lo + i) x b hx hb
          exact ⟨cs, q1, fun j u hu => by rw [show off + lo * e.size + i * e.size + j = off + (lo + i) * e.size + j by rw [Nat.add_mul]; omega]; exact q2 j u hu⟩
        · cases hx
      · rcases List.mem_cons.1 hb with rfl | hb
        · exact List.mem_cons_self ..
        · obtain ⟨l, hl, hbl⟩ := List.mem_flatten.1 hb
          exact List.mem_cons_of_mem _ (List.mem_flatten.2 ⟨l, List.mem_of_mem_drop (List.mem_of_mem_take hl), hbl⟩)
/-- What a callee may read of a cell. -/
def rdC (l : Locs) : Cell → Option Cell
  | .own k => match lkl l k with | some (.arr _ e xs _) => some (.sl e xs) | _ => none
  | .slo _ e xs => some (.sl e xs)
  | .epo _ e x o => some (.ep e x o)
  | .c v => some (.c v)
  | .sl e xs => some (.sl e xs)
  | .ep e x o => some (.ep e x o)
  | .sn e xs => some (.sl e xs)
  | .osl k lo n => match lkl l k with | some (.arr _ e xs _) => some (.sl e ((xs.drop lo).take n)) | _ => none
  | _ => none
def rdCs (l : Locs) : List Cell → Option (List Cell)
  | [] => some []
  | c :: cs => match rdC l c, rdCs l cs with | some d, some ds => some (d :: ds) | _, _ => none
def rdA (l : Locs) : AVal → Option AVal
  | .one x => match rdC l x with | some y => some (.one y) | none => none
  | .agg xs => match rdCs l xs with | some ys => some (.agg ys) | none => none
  | .tup _ => none
def rdAs (l : Locs) : List AVal → Option (List AVal)
  | [] => some []
  | x :: xs => match rdA l x, rdAs l xs with | some y, some ys => some (y :: ys) | _, _ => none
/-- Cells that speak of no memory that is only read. -/
def cleanC : Cell → Bool
  | .c _ => true
  | .own _ => true
  | .any => true
  | _ => false
def cleanV : AVal → Bool
  | .one x => cleanC x
  | .agg xs => xs.all cleanC
  | .tup xs => xs.all fun | .one x => cleanC x | .agg ys => ys.all cleanC | .tup _ => false
def cleanL : Locs → Bool
  | [] => true
  | (_, some (.arr _ _ _ d)) :: r => d && cleanL r
  | (_, some (.box _)) :: _ => false
  | (_, none) :: r => cleanL r
/-- The arrays that are read. -/
def liveR (g : Gh) (l : Locs) (b : Nat) : Prop := ∃ k blk, lkl l k = some blk ∧ liv g k blk ∧ b = g.ρ k

theorem rdC_ok {g : Gh} {l : Locs} {w : World} (m : MemR g l w) {v : Value} {x y : Cell} (h : CellR g l w v x) (hr : rdC l x = some y) : CellR { g with I := fun b => g.I b ∨ liveR g l b } [] w v y := by
  cases x with
  | c u => cases hr; exact h
  | sl e xs => cases hr; obtain ⟨a, n, cap, bs, h1, h2, h3⟩ := h; exact ⟨a, n, cap, bs, h1, h2, fun b hb => .inl (h3 b hb)⟩
  | own k =>
    simp only [rdC] at hr
    split at hr
    · rename_i T e xs d hk
      cases hr
      obtain ⟨a, n, cap, bs, h1, h2, h3, _⟩ := (m.arr k _ _ _ _ _ hk).slice
      exact ⟨a, n, cap, bs, (h _ _ _ _ _ hk).trans h1, h2, fun b hb => by
        rcases h3 b hb with h4 | ⟨h4, h5⟩
        · exact .inl h4
        · exact .inr ⟨k, _, hk, h4, h5⟩⟩
    · cases hr
  | ep e z off => cases hr; obtain ⟨gb, o, cs, b, h1, h2, h3, h4, h5⟩ := h; exact ⟨gb, o, cs, b, h1, .inl h2, h3, fun c hc => .inl (h4 c hc), h5⟩
  | slo B e xs => cases hr; obtain ⟨a, n, cap, bs, h1, h2, h3⟩ := h; exact ⟨a, n, cap, bs, h1, h2, fun b hb => .inl (h3 b hb).1⟩
  | epo B e z off => cases hr; obtain ⟨gb, o, cs, b, h1, h2, h3, h4, h5⟩ := h; exact ⟨gb, o, cs, b, h1, .inl h2.1, h3, fun c hc => .inl (h4 c hc).1, h5⟩
  | sn e xs => cases hr; obtain ⟨a, n, cap, bs, h1, h2, h3⟩ := h; exact ⟨_, n, cap, bs, h1, h2, fun b hb => .inl (h3 b hb)⟩
  | osl k lo n =>
    simp only [rdC] at hr
    split at hr
    · rename_i T e xs d hk
      cases hr
      obtain ⟨a, m0, cap0, bs, h1, h2, h3, _⟩ := (m.arr k _ _ _ _ _ hk).slice
      have conv : ∀ b, b ∈ bs → g.I b ∨ liveR g l b := fun b hb => by
        rcases h3 b hb with h4 | ⟨h4, h5⟩
        · exact .inl h4
        · exact .inr ⟨k, _, hk, h4, h5⟩
      rcases h _ _ _ _ _ hk with ⟨f1, f2, rfl, rfl⟩ | ⟨len, cap, off, f1, f2, f3, f4, f5⟩
      · exact ⟨none, 0, 0, [], f2, ⟨by simp, Nat.le_refl _, by unfold maxLen; omega, fun _ => rfl, .inl ⟨by simp, rfl⟩⟩, fun b hb => by cases hb⟩
      · rw [f1] at h1; cases h1
        have hlen := h2.1
        have hcm := h2.2.2.1
        obtain ⟨bs', p1, p2⟩ := h2.part (lo := lo) (hi := lo + n) (by omega) (by omega)
        rw [Nat.add_sub_cancel_left] at p1
        by_cases hc : lo < cap0
        · rw [if_neg (by omega)] at p1
          refine ⟨_, _, _, bs', ?_, p1, fun b hb => conv b (p2 b hb)⟩
          rw [f2, f5 hc]; simp [addr_add]
        · have hn : n = 0 := by omega
          subst hn
          exact ⟨_, _, _, [], f2, ⟨by simp, Nat.zero_le _, by omega, (fun h => by cases h), .inl ⟨by simp, rfl⟩⟩, fun b hb => by cases hb⟩
    · cases hr
  | _ => cases hr
theorem rdCs_ok {g : Gh} {l : Locs} {w : World} (m : MemR g l w) : ∀ {vs : List Value} {xs ys : List Cell}, All2 (CellR g l w) vs xs → rdCs l xs = some ys → All2 (CellR { g with I := fun b => g.I b ∨ liveR g l b } [] w) vs ys
  | [], [], ys, _, hr => by cases hr; trivial
  | v :: vs, x :: xs, ys, h, hr => by
    simp only [rdCs] at hr
    split at hr
    · rename_i d ds h1 h2; cases hr; exact ⟨rdC_ok m h.1 h1, rdCs_ok m h.2 h2⟩
    · cases hr
theorem rdA_ok {g : Gh} {l : Locs} {w : World} (m : MemR g l w) {v : Value} {x y : AVal} (h : VR1 g l w v x) (hr : rdA l x = some y) : VR1 { g with I := fun b => g.I b ∨ liveR g l b } [] w v y := by
  cases x with
  | one x =>
    simp only [rdA] at hr
    split at hr
    · rename_i d h1; cases hr; exact rdC_ok m h h1
    · cases hr
  | agg xs =>
    simp only [rdA] at hr
    split at hr
    · rename_i ds h1; cases hr
      obtain ⟨vs, h2, h3⟩ := h
      exact ⟨vs, h2, rdCs_ok m h3 h1⟩
    · cases hr
  | tup xs => cases hr
theorem rdAs_ok {g : Gh} {l : Locs} {w : World} (m : MemR g l w) : ∀ {vs : List Value} {xs ys : List AVal}, All2 (VR1 g l w) vs xs → rdAs l xs = some ys → All2 (VR1 { g with I := fun b => g.I b ∨ liveR g l b } [] w) vs ys
  | [], [], ys, _, hr => by cases hr; trivial
  | v :: vs, x :: xs, ys, h, hr => by
    simp only [rdAs] at hr
    split at hr
    · rename_i d ds h1 h2; cases hr; exact ⟨rdA_ok m h.1 h1, rdAs_ok m h.2 h2⟩
    · cases hr
theorem rdAs_flats {l : Locs} : ∀ {xs ys : List AVal}, rdAs l xs = some ys → flats xs = true
  | [], _, _ => rfl
  | x :: xs, ys, h => by
    simp only [rdAs] at h
    split at h
    · rename_i d ds h1 h2
      simp only [flats, Bool.and_eq_true]
      refine ⟨?_, rdAs_flats h2⟩
      cases x <;> first | rfl | cases h1
    · cases h
/-- The reading depends on the blocks that the cells speak of alone. -/
theorem rdC_of {l l' : Locs} {xs : List Cell} (h : ∀ p ∈ rlC l xs, lkl l' p.1 = some p.2) {x y : Cell} (hx : x ∈ xs) (hr : rdC l x = some y) : rdC l' x = some y := by
  cases x with
  | own k =>
    simp only [rdC] at hr ⊢
    split at hr
    · rename_i T e zs d hk; cases hr; rw [rlC_get h hx (by simp [Cell.ids]) hk]
    · cases hr
  | osl k lo n =>
    simp only [rdC] at hr ⊢
    split at hr
    · rename_i T e zs d hk; cases hr; rw [rlC_get h hx (by simp [Cell.ids]) hk]
    · cases hr
  | _ => first | exact hr | cases hr
theorem rdCs_of {l l' : Locs} {zs : List Cell} (h : ∀ p ∈ rlC l zs, lkl l' p.1 = some p.2) : ∀ {xs ys : List Cell}, (∀ x ∈ xs, x ∈ zs) → rdCs l xs = some ys → rdCs l' xs = some ys
  | [], ys, _, hr => hr
  | x :: xs, ys, hx, hr => by
    simp only [rdCs] at hr ⊢
    split at hr
    · rename_i d ds h1 h2
      cases hr
      rw [rdC_of h (hx x (List.mem_cons_self ..)) h1, rdCs_of h (fun y hy => hx y (List.mem_cons_of_mem _ hy)) h2]
    · cases hr
theorem rdA_of {l l' : Locs} {zs : List Cell} (h : ∀ p ∈ rlC l zs, lkl l' p.1 = some p.2) {x y : AVal} (hx : ∀ c ∈ x.cells, c ∈ zs) (hr : rdA l x = some y) : rdA l' x = some y := by
  cases x with
  | one x =>
    simp only [rdA] at hr ⊢
    split at hr
    · rename_i d h1; rw [rdC_of h (hx x (List.mem_singleton.2 rfl)) h1]; exact hr
    · cases hr
  | agg xs =>
    simp only [rdA] at hr ⊢
    split at hr
    · rename_i ds h1; rw [rdCs_of (xs := xs) h hx h1]; exact hr
    · cases hr
  | tup xs => cases hr
theorem rdAs_of {l l' : Locs} {zs : List Cell} (h : ∀ p ∈ rlC l zs, lkl l' p.1 = some p.2) : ∀ {xs ys : List AVal}, (∀ c ∈ xs.flatMap AVal.cells, c ∈ zs) → rdAs l xs = some ys → rdAs l' xs = some ys
  | [], ys, _, hr => hr
  | x :: xs, ys, hx, hr => by
    simp only [rdAs] at hr ⊢
    split at hr
    · rename_i d ds h1 h2
      cases hr
      rw [rdA_of h (fun c hc => hx c (List.mem_flatMap.2 ⟨x, List.mem_cons_self .., hc⟩)) h1, rdAs_of h (fun c hc => by
        obtain ⟨y, hy, hcy⟩ := List.mem_flatMap.1 hc
        exact hx c (List.mem_flatMap.2 ⟨y, List.mem_cons_of_mem _ hy, hcy⟩)) h2]
    · cases hr

theorem cleanC_re {g : Gh} {I : Nat → Prop} {l : Locs} {w : World} {v : Value} {x : Cell} (hc : cleanC x = true) (h : CellR g l w v x) : CellR { g with I := I } l w v x := by
  cases x <;> first | exact h | cases hc
theorem cleanCs_re {g : Gh} {I : Nat → Prop} {l : Locs} {w : World} : ∀ {vs : List Value} {xs : List Cell}, xs.all cleanC = true → All2 (CellR g l w) vs xs → All2 (CellR { g with I := I } l w) vs xs
  | [], [], _, _ => trivial
  | v :: vs, x :: xs, hc, h => by
    simp only [List.all_cons, Bool.and_eq_true] at hc
    exact ⟨cleanC_re hc.1 h.1, cleanCs_re hc.2 h.2⟩
theorem cleanV1_re {g : Gh} {I : Nat → Prop} {l : Locs} {w : World} {v : Value} {x : AVal} (hc : cleanV x = true) (h : VR1 g l w v x) : VR1 { g with I := I } l w v x := by
  cases x with
  | one x => exact cleanC_re hc h
  | agg xs => obtain ⟨vs, h1, h2⟩ := h; exact ⟨vs, h1, cleanCs_re hc h2⟩
  | tup xs => exact h
theorem cleanV_re {g : Gh} {I : Nat → Prop} {l : Locs} {w : World} {v : Value} {x : AVal} (hc : cleanV x = true) (h : VR g l w v x) : VR { g with I := I } l w v x := by
  cases x with
  | one x => exact cleanC_re hc h
  | agg xs => exact cleanV1_re (x := .agg xs) hc h
  | tup xs =>
    obtain ⟨vs, h1, h2⟩ := h
    refine ⟨vs, h1, ?_⟩
    clear h1
    simp only [cleanV, List.all_eq_true] at hc
    exact h2.mono fun a b hb hr => by
      have := hc b hb
      cases b with
      | one x => exact cleanC_re this hr
      | agg ys => obtain ⟨vs, h3, h4⟩ := hr; exact ⟨vs, h3, cleanCs_re this h4⟩
      | tup _ => exact hr
theorem cleanL_arr : ∀ {L : Locs} {k : Nat} {b : Blk}, cleanL L = true → lkl L k = some b → ∃ (α : Type) (T : TypeId) (e : Enc α) (xs : List α), b = .arr T e xs true
  | [], k, b, _, h => by simp [lkl, lk] at h
  | (j, none) :: r, k, b, hc, h => by
    by_cases e : j = k
    · subst e; rw [lkl_cons_self] at h; cases h
    · rw [lkl_cons_ne e] at h; exact cleanL_arr (L := r) hc h
  | (j, some (.arr T e xs d)) :: r, k, b, hc, h => by
    simp only [cleanL, Bool.and_eq_true] at hc
    by_cases ek : j = k
    · subst ek; rw [lkl_cons_self] at h; cases h; obtain ⟨rfl, _⟩ := hc; exact ⟨_, T, e, xs, rfl⟩
    · rw [lkl_cons_ne ek] at h; exact cleanL_arr (L := r) hc.2 h
  | (j, some (.box cs)) :: r, k, b, hc, h => by cases hc

theorem liveR_lt {g : Gh} {l : Locs} {w : World} (m : MemR g l w) {b : Nat} (h : liveR g l b) : b < w.heap.size ∧ ¬ g.I b := by
  obtain ⟨k, blk, h1, h2, rfl⟩ := h
  exact ⟨m.lt h1 h2, m.notI h1 h2⟩
/-- What a callee that was lent nothing but reading leaves. -/
theorem read_back {g g' : Gh} {l L' : Locs} {w w' : World} (m : MemR g l w) (m' : MemR g' L' w') (hs : Step (keys ([] : Locs)) { g with I := fun b => g.I b ∨ liveR g l b } [] w g' L' w') (hc : cleanL L' = true) :
    MemR { g' with I := fun b => g'.I b ∧ ¬ liveR g l b } L' w' ∧ Step (keys ([] : Locs)) g [] w { g' with I := fun b => g'.I b ∧ ¬ liveR g l b } L' w' := by
  have own : ∀ b, OwnB g' L' b → w.heap.size ≤ b := fun b hb => by
    rcases hs.own b hb with ⟨k, blk, hk, _⟩ | h
    · simp [lkl, lk] at hk
    · exact h
  have nl : ∀ b, w.heap.size ≤ b → ¬ liveR g l b := fun b hb hl => by have := (liveR_lt m hl).1; omega
  refine ⟨⟨fun b hb => m'.ilt b hb.1, fun k cs hk => ?_, fun k α T e xs d hk => ?_, m'.dis, fun k α T e xs hk => ?_, m'.fd⟩, ⟨hs.os, hs.tape, hs.output, hs.size, fun b hb _ => hs.keep b hb fun k blk hk => (by simp [lkl, lk] at hk), fun b hb => ⟨hs.imm b (.inl hb), fun hl => (liveR_lt m hl).2 hb⟩, fun b hb => ?_, fun b hb => .inr (own b ?_), fun k hk => by cases hk⟩⟩
  · obtain ⟨_, _, _, _, h⟩ := cleanL_arr hc hk; cases h
  · obtain ⟨_, _, _, _, h⟩ := cleanL_arr hc hk
    cases h
    rcases m'.arr k α T e xs true hk with h1 | ⟨cap, vs, bss, a1, a2, a3, a4, a5, a6, a7, a8, a9⟩
    · exact .inl h1
    · refine .inr ⟨cap, vs, bss, a1, a2, a3, a4, a5, a6, fun b hb => ⟨a7 b hb, nl b (own b ⟨k, _, hk, .inr ⟨α, T, e, xs, rfl, by rw [a9 rfl]; exact hb⟩⟩)⟩, fun h => a8 h.1, a9⟩
  · obtain ⟨h1, h2⟩ := m'.fr k α T e xs hk
    exact ⟨h1, fun b hb => ⟨⟨(h2 b hb).1, nl b (own b ⟨k, _, hk, .inr ⟨α, T, e, xs, rfl, hb⟩⟩)⟩, (h2 b hb).2⟩⟩
  · rcases hs.imm' b hb.1 with (h | h) | h | h
    · exact .inl h
    · exact absurd h hb.2
    · exact .inr (.inl h)
    · obtain ⟨k, blk, hk, _⟩ := h; simp [lkl, lk] at hk
  · obtain ⟨k, blk, hk, h⟩ := hb
    exact ⟨k, blk, hk, h⟩
section ops
variable {P : Program} {N : Nat} {s : St} {d : Nat} {ty : TypeId} {pos : String} {after : Array Edge} {gd : Option (Nat × Bool)}
/-- A call that reads own arrays and leaves new ones. -/
theorem x_callR {fo : Operand} {f : FuncId} {ars : Array Operand} {ats : Array TypeId} {xs ys zs : List AVal} {L' : Locs} {res : AVal} (hN : Nat.blt d N = true) (hev : evo s.t fo = some (.one (.clo f [])))
    (hxs : evl s.t ars.toList = some xs) (hac : AC P f zs [] res L') (hrd : rdAs s.l xs = some ys) (hle : AllV ys zs) (hcr : cleanV res = true) (hcl : cleanL L' = true) (hsc : closedIn (keys L') L'.ids = true) (hsr : closedIn (keys L') res.ids = true) (hnew : newOk s (keys L') = true) :
    Stp P N ⟨some d, .call { callee := .value fo, args := ars, argTypes := ats }, ty, pos, after, gd⟩ s ⟨(d, res) :: s.t, L' ++ s.l⟩ ⟨rdo fo (.one (.clo f [])) ++ rdl s.t ars.toList, rlC s.l (xs.flatMap AVal.cells), [(d, res)], L', keys L'⟩ := by
  have nwe : newOf [] L' = keys L' := by simp [newOf, keys]
  refine ⟨fun K g s' a w hp R => ?_, ⟨fun p hp => by
      rcases List.mem_append.1 hp with hp | hp
      · exact rdo_of hev p hp
      · exact (evl_ok (N := N) hxs).1 p hp, rlC_self, newOk_of hnew⟩, rfl⟩
  obtain ⟨p1, p2, p3⟩ := hp
  have q1 : ∀ p ∈ rdo fo (.one (.clo f [])), lk s'.t p.1 = some p.2 := fun p hm => p1 p (List.mem_append_left _ hm)
  have q2 : ∀ p ∈ rdl s.t ars.toList, lk s'.t p.1 = some p.2 := fun p hm => p1 p (List.mem_append_right _ hm)
  have hfv : VR g s'.l w (a.eval fo) (.one (.clo f [])) := eval_ok R (evs_of hev) q1
  have hfe : a.eval fo = .func (.func f) #[] #[] := hfv (fun k hk => by cases hk)
  have hargs : All2 (VR1 { g with I := fun b => g.I b ∨ liveR g s'.l b } [] w) ((ars.map a.eval) ++ #[]).toList zs := by
    refine hle.all2 ?_
    rw [Array.append_empty, Array.toList_map]
    exact rdAs_ok R.mem (((evl_ok hxs).2 R q2).vr1 (rdAs_flats hrd)) (rdAs_of p2 (fun c hc => hc) hrd)
  have mc : MemR { g with I := fun b => g.I b ∨ liveR g s'.l b } [] w :=
    ⟨fun b hb => hb.elim (R.mem.ilt b) fun h => (liveR_lt R.mem h).1, fun k cs hk => (by simp [lkl, lk] at hk), fun k α T e xs d hk => (by simp [lkl, lk] at hk), fun j k b b' _ hj => (by simp [lkl, lk] at hj), fun k α T e xs hk => (by simp [lkl, lk] at hk), fun j k α β T U e f xs ys _ hj => (by simp [lkl, lk] at hj)⟩
  unfold Oper.wp
  rw [run_enter rfl hac.fn hfe, Oper.upon_enter]
  refine (hac.run _ w _ mc hargs).mono ?_
  rintro e w' ⟨v, g', rfl, m', hv, hs⟩
  obtain ⟨m2, s2⟩ := read_back R.mem m' hs hcl
  have hnw : ∀ k ∈ newOf [] L', lk s'.l k = none ∧ k ∉ s'.l.ids := fun k hk => by
    rw [nwe] at hk
    exact ⟨(p3 k hk).1, fun h => (p3 k hk).2 (List.mem_append_right _ h)⟩
  obtain ⟨c1, c2, c3, c4, c5⟩ := call_mem (L := []) R.mem trivial m2 s2 hsc rfl hnw K
  have hmm : ∀ b, g.I b → (g.mix { g' with I := fun b => g'.I b ∧ ¬ liveR g s'.l b } (keys L' ++ keys ([] : Locs))).I b := fun b hb => s2.imm b hb
  show ∃ g2, Rep N g2 ⟨[(d, res)] ++ s'.t, L' ++ s'.l⟩ (a.put (some d) v) w' ∧ Step K g s'.l w g2 (L' ++ s'.l) w'
  exact ⟨_, R.next (blt_lt hN) c3 hmm s2.size (fun k hk => c4 k fun h => (p3 k (by rw [← nwe]; exact h)).2 hk) (VR.step (g := { g' with I := fun b => g'.I b ∧ ¬ liveR g s'.l b }) (l := L') (fun _ _ => rfl) (fun b hb => hb) (Nat.le_refl _) (fun k hk => c5 k (closedIn_get hsr hk)) (cleanV_re hcr hv)) c1, c2⟩
end ops
end Go.Proofs.Ytfdpigafekohgaa

/- Parts of slices and of texts; texts made of bytes; own arrays that are given up to be read alone. -/
namespace Go.Proofs.Ytfdpigafekohgaa
open Go.RowKit
set_option linter.unusedVariables false

theorem run_sliceOf {P : Program} {T E n : Nat} (hT : sliceT P T = some (E, n)) (w : World) (a : Option Addr) (len cap : Nat) {lo hi : Option Value} {l h : Nat} (hlo : (lo = none ∧ l = 0) ∨ ∃ k, lo = some (.int k (l : Int))) (hhi : (hi = none ∧ h = len) ∨ ∃ k, hi = some (.int k (h : Int)))
    (h1 : l ≤ h) (h2 : h ≤ cap) : (Instr.sliceAt T (.slice a len cap) lo hi none).run P w = .ok (.slice (if cap = l then a else a.map (·.add (l * n))) (h - l) (cap - l)) w := by
  obtain ⟨hu, ii, hii, rfl⟩ := sliceT_spec hT
  have e1 : (0 : Int) ≤ (l : Int) ∧ (l : Int) ≤ (h : Int) := by omega
  have e2 : (0 : Int) ≤ (h : Int) ∧ (h : Int) ≤ (cap : Int) := by omega
  rcases hlo with ⟨rfl, rfl⟩ | ⟨k, rfl⟩ <;> rcases hhi with ⟨rfl, rfl⟩ | ⟨k', rfl⟩ <;>
    simp [Instr.sliceAt, Instr.slice, run_underlying hu, Instr.sliceBounds, run_sliceBound, sizeOf, typeInfo, *]
/-- A bound of a part: an operand, or the usual one. -/
inductive OB (t : Tmps) (dv : Nat) : Option Operand → List (Nat × AVal) → Nat → Prop
  | no : OB t dv none [] dv
  | yes {o : Operand} {k : IntKind} {v : Int} {l : Nat} (h : evo t o = some (.one (.c (.int k v)))) (hv : v = (l : Int)) : OB t dv (some o) (rdo o (.one (.c (.int k v)))) l
theorem OB.rd {t : Tmps} {dv : Nat} {o : Option Operand} {rd : List (Nat × AVal)} {l : Nat} (h : OB t dv o rd l) : ∀ p ∈ rd, lk t p.1 = some p.2 := by
  cases h with
  | no => intro p hp; cases hp
  | yes h hv => exact rdo_of h
theorem OB.ev {N : Nat} {t : Tmps} {dv : Nat} {o : Option Operand} {rd : List (Nat × AVal)} {l : Nat} (h : OB t dv o rd l) {g : Gh} {s : St} {a : Act} {w : World} (r : Rep N g s a w) (hr : ∀ p ∈ rd, lk s.t p.1 = some p.2) :
    (o.map a.eval = none ∧ l = dv) ∨ ∃ k, o.map a.eval = some (.int k (l : Int)) := by
  cases h with
  | no => exact .inl ⟨rfl, rfl⟩
  | yes h hv =>
    have e4 := (eval_ok r (evs_of h) hr : CellR g s.l w _ (.c _)).1
    subst hv
    exact .inr ⟨_, congrArg some e4⟩
section ops
variable {P : Program} {N : Nat} {s : St} {d : Nat} {ty : TypeId} {pos : String} {after : Array Edge} {gd : Option (Nat × Bool)}
theorem x_slice {α : Type} {e : Enc α} {xs ys : List α} {T E n l h : Nat} {x : Operand} {lo hi : Option Operand} {rl rh : List (Nat × AVal)} (hN : Nat.blt d N = true) (hx : evo s.t x = some (.one (.sl e xs))) (hT : sliceT P T = some (E, n)) (hz : e.size = n) (ho : OB s.t 0 lo rl l) (hh : OB s.t xs.length hi rh h)
    (h1 : l ≤ h) (h2 : h ≤ xs.length) (hy : (xs.drop l).take (h - l) = ys) :
    Stp P N ⟨some d, .slice T x lo hi none, ty, pos, after, gd⟩ s ⟨(d, .one (.sl e ys)) :: s.t, s.l⟩ ⟨rdo x (.one (.sl e xs)) ++ (rl ++ rh), [], [(d, .one (.sl e ys))], [], []⟩ :=
  Stp.pure rfl hN (fun p hp => by rcases List.mem_append.1 hp with hp | hp; exact rdo_of hx p hp; rcases List.mem_append.1 hp with hp | hp; exact ho.rd p hp; exact hh.rd p hp) (by simp) fun g s' a w ht hl' r => by
    obtain ⟨ad, m, cap, bs, e1, e2, e3⟩ : CellR g s'.l w (a.eval x) (.sl e xs) := eval_ok r (evs_of hx) fun p hp => ht p (List.mem_append_left _ hp)
    have q1 := ho.ev r fun p hp => ht p (List.mem_append_right _ (List.mem_append_left _ hp))
    have q2 := hh.ev r fun p hp => ht p (List.mem_append_right _ (List.mem_append_right _ hp))
    have q2' : (hi.map a.eval = none ∧ h = m) ∨ ∃ k, hi.map a.eval = some (.int k (h : Int)) := by rw [e2.1]; exact q2
    have hrun := run_sliceOf hT w ad m cap q1 q2' h1 (by have := e2.1; have := e2.2.1; omega)
    obtain ⟨bs', p1, p2⟩ := e2.part h1 h2
    subst hz; subst hy
    exact ⟨_, by simp only [execOp, e1, Sem.run_bind, Option.map_none, hrun, Result.andThen_ok, Sem.run_pure], _, _, _, bs', rfl, p1, fun b hb => e3 b (p2 b hb)⟩
/-- A part of an own array. -/
theorem x_oslice {α : Type} {e : Enc α} {xs : List α} {dp : Bool} {T E n l h K : Nat} {x : Operand} {lo hi : Option Operand} {rl rh : List (Nat × AVal)} (hN : Nat.blt d N = true) (hx : evo s.t x = some (.one (.own K))) (hl : lkl s.l K = some (.arr E e xs dp)) (hT : sliceT P T = some (E, n)) (hz : e.size = n) (ho : OB s.t 0 lo rl l) (hh : OB s.t xs.length hi rh h)
    (h1 : l ≤ h) (h2 : h ≤ xs.length) :
    Stp P N ⟨some d, .slice T x lo hi none, ty, pos, after, gd⟩ s ⟨(d, .one (.osl K l (h - l))) :: s.t, s.l⟩ ⟨rdo x (.one (.own K)) ++ (rl ++ rh), [(K, .arr E e xs dp)], [(d, .one (.osl K l (h - l)))], [], []⟩ :=
  Stp.pure rfl hN (fun p hp => by rcases List.mem_append.1 hp with hp | hp; exact rdo_of hx p hp; rcases List.mem_append.1 hp with hp | hp; exact ho.rd p hp; exact hh.rd p hp) (by simpa using hl) fun g s' a w ht hl' r => by
    have hK : lkl s'.l K = some (.arr E e xs dp) := hl' (K, .arr E e xs dp) (by simp)
    have e1 : a.eval x = g.hd K := (eval_ok r (evs_of hx) fun p hp => ht p (List.mem_append_left _ hp) : CellR g s'.l w _ (.own K)) _ _ _ _ _ hK
    have q1 := ho.ev r fun p hp => ht p (List.mem_append_right _ (List.mem_append_left _ hp))
    have q2 := hh.ev r fun p hp => ht p (List.mem_append_right _ (List.mem_append_right _ hp))
    rcases r.mem.arr K α E e xs dp hK with ⟨f1, f2, _⟩ | ⟨cap, vs, bss, f1, f2, f3, _⟩
    · subst f1
      have : h = 0 := by simpa using h2
      subst this
      have : l = 0 := by omega
      subst this
      have hrun := run_sliceOf hT w none 0 0 q1 q2 h1 h2
      refine ⟨.slice none 0 0, by simp only [execOp, e1, f2, Sem.run_bind, Option.map_none, hrun, Result.andThen_ok, Sem.run_pure]; rfl, fun β U f ys dq hq => .inl ⟨f2, rfl, rfl, rfl⟩⟩
    · have hrun := run_sliceOf hT w (some ⟨g.ρ K, 0, none⟩) xs.length cap q1 q2 h1 (by omega)
      refine ⟨_, by simp only [execOp, e1, f1, Sem.run_bind, Option.map_none, hrun, Result.andThen_ok, Sem.run_pure]; rfl, fun β U f ys dq hq => ?_⟩
      rw [hK] at hq; cases hq
      refine .inr ⟨xs.length, cap, if cap = l then 0 else l * n, f1, ?_, by omega, f2, fun hlc => by rw [if_neg (by omega), hz]⟩
      split <;> simp [addr_add]
end ops
/-! ### An own array is given up: nobody writes it any more -/
theorem box_re2 {g : Gh} {l : Locs} {w : World} (m : MemR g l w) {b : Nat} {cs cs' : List Cell} (hb : lkl l b = some (.box cs)) (h : ∀ (vs : Array Value) (t : TypeId), w.heap[g.ρ b]? = some (.cells vs t (0, 0)) → All2 (CellR g l w) vs.toList cs → All2 (CellR g l w) vs.toList cs') :
    MemR g ((b, some (.box cs')) :: l) w ∧ (∀ K, Step K g l w g ((b, some (.box cs')) :: l) w) ∧ ∀ j, okK g l g ((b, some (.box cs')) :: l) j := by
  obtain ⟨vs, t, h1, h2, h3⟩ := m.box b cs hb
  have h4 := box_set m hb (vs := vs.toList) (vs' := vs.toList) (T := t) (by simpa using h1) (h _ _ h1 h2)
  have e : w.setRow (g.ρ b) vs.toList.toArray = w := by
    simp only [Array.toArray_toList]
    have hh : (w.setRow (g.ρ b) vs).heap = w.heap := Array.ext_getElem? fun i => by
      by_cases hi : i = g.ρ b
      · subst hi; rw [setRow_heap w _ _ _ t _ h1, h1]
      · exact setRow_other w _ i _ hi
    have h5 : w.setRow (g.ρ b) vs = { w with heap := (w.setRow (g.ρ b) vs).heap } := rfl
    rw [h5, hh]
  rw [e] at h4
  exact ⟨h4.1, h4.2.1, h4.2.2.2⟩
def Gh.shut (g : Gh) (k : Nat) : Gh := { g with I := fun b => g.I b ∨ (g.hd k ≠ .slice none 0 0 ∧ b = g.ρ k) }
section shut
variable {g : Gh} {l : Locs} {w : World}
theorem shut_mem (m : MemR g l w) {k : Nat} {α : Type} {T : TypeId} {e : Enc α} {xs : List α} {dp : Bool} (hk : lkl l k = some (.arr T e xs dp)) :
    MemR (g.shut k) ((k, none) :: l) w ∧ (∀ K, Step K g l w (g.shut k) ((k, none) :: l) w) ∧ CellR (g.shut k) ((k, none) :: l) w (g.hd k) (.sl e xs) ∧ ∀ j, okK g l (g.shut k) ((k, none) :: l) j := by
  have live : g.hd k ≠ .slice none 0 0 → liv g k (.arr T e xs dp) := fun h => h
  have hlt : ∀ b, (g.shut k).I b → b < w.heap.size := fun b hb => hb.elim (m.ilt b) fun h => by rw [h.2]; exact m.lt hk (live h.1)
  have hu : ∀ j, j ≠ k → lkl ((k, none) :: l) j = none ∨ Untouched g l w (g.shut k) ((k, none) :: l) w j := fun j hj =>
    .inr ⟨lkl_cons_ne (Ne.symm hj), rfl, rfl, rfl, fun b hb hl => ⟨rfl, fun h => h.elim (m.notI hb hl) fun h => m.dis j k b _ hj hb hk hl (live h.1) h.2⟩⟩
  have ok : ∀ j, okK g l (g.shut k) ((k, none) :: l) j := fun j => by
    by_cases e : j = k
    · subst e; exact okK.gone lkl_cons_self
    · exact okK.same (lkl_cons_ne (Ne.symm e)) rfl rfl
  have no : ∀ {b : Blk}, lkl ((k, none) :: l) k = some b → False := fun h => by rw [lkl_cons_self] at h; cases h
  refine ⟨m.set1 k (fun _ _ => rfl) (fun _ h => .inl h) (Nat.le_refl _) hlt hu (.inl (ok k)) (fun cs h => (no h).elim) (fun α T e xs d h => (no h).elim) (fun j b b' _ _ _ h => (no h).elim) (fun α T e xs h => (no h).elim) (fun j α β T U e f xs ys _ _ _ h => (no h).elim), fun K => ?_, ?_, ok⟩
  · refine ⟨rfl, rfl, rfl, Nat.le_refl _, fun _ _ _ => rfl, fun _ h => .inl h, fun b h => h.elim .inl fun h => .inr (.inr ⟨k, _, hk, .inl ⟨live h.1, h.2⟩⟩), own_set1 k hu (fun b h => (no h).elim) (fun α T e xs h => (no h).elim), fun j hj hn => ?_⟩
    refine ⟨?_, ok j, fun cs hc => ?_⟩
    · by_cases e : k = j
      · subst e; rw [lk_cons_self]; simp
      · rw [lk_cons_ne e]; exact hn
    · by_cases e : k = j
      · subst e; rw [hk] at hc; cases hc
      · exact ⟨cs, by rw [lkl_cons_ne e]; exact hc⟩
  · obtain ⟨a, n, cap, bs, h1, h2, h3, _⟩ := (m.arr k _ _ _ _ _ hk).slice
    exact ⟨a, n, cap, bs, h1, h2, fun b hb => h3 b hb⟩
variable {P : Program} {N : Nat} {K : List Nat} {Kn : St → Prop} {Q : Exit → St → Prop} {s : St}
theorem AW_shut {α : Type} {T : TypeId} {e : Enc α} {xs : List α} {dp : Bool} {c : Code} (k t : Nat) (ht : lk s.t t = some (.one (.own k))) (hk : lkl s.l k = some (.arr T e xs dp))
    (h : AW P N K c Kn Q ⟨(t, .one (.sl e xs)) :: s.t, (k, none) :: s.l⟩) : AW P N K c Kn Q s := fun g a w r => by
  obtain ⟨m1, st1, c1, ok1⟩ := shut_mem r.mem hk
  have r1 := r.next0 (g' := g.shut k) (l' := (k, none) :: s.l) (w' := w) (fun _ _ => rfl) (fun _ h => .inl h) (Nat.le_refl _) (fun j _ => ok1 j) m1
  have hv : a.tmps.getD t undef = g.hd k := (r.tmp t _ ht : CellR g s.l w _ (.own k)) _ _ _ _ _ hk
  have r2 : Rep N (g.shut k) ⟨(t, .one (.sl e xs)) :: s.t, (k, none) :: s.l⟩ a w := ⟨r1.size, r1.defers, fun j x hj => by
    by_cases hjt : t = j
    · subst hjt
      rw [lk_cons_self] at hj; cases hj
      rw [hv]; exact c1
    · rw [lk_cons_ne hjt] at hj
      exact r1.tmp j x hj, m1⟩
  exact Go.wp_mono (h _ a w r2) fun e a1 w1 h1 => h1.trans r.mem m1 (st1 K)
/-- .. where it lies in a variable. -/
theorem AW_shutB {α : Type} {T : TypeId} {e : Enc α} {xs : List α} {dp : Bool} {c : Code} (k b off : Nat) {cs cs' : List Cell} (hb : lkl s.l b = some (.box cs)) (hc : nthC cs off = some (.own k)) (hcs : cs.set off (.sl e xs) = cs') (hk : lkl s.l k = some (.arr T e xs dp))
    (h : AW P N K c Kn Q ⟨s.t, (b, some (.box cs')) :: (k, none) :: s.l⟩) : AW P N K c Kn Q s := fun g a w r => by
  obtain ⟨m1, st1, c1, ok1⟩ := shut_mem r.mem hk
  have hkb : k ≠ b := fun e => by subst e; rw [hb] at hk; cases hk
  have hb' : lkl ((k, none) :: s.l) b = some (.box cs) := by rw [lkl_cons_ne hkb]; exact hb
  obtain ⟨m2, st2, ok2⟩ := box_re2 m1 hb' (cs' := cs') (fun vs ty hh hv => by
    obtain ⟨vs0, t0, z1, z2, z3⟩ := r.mem.box b cs hb
    have e0 : vs0 = vs := by
      have hh' : w.heap[g.ρ b]? = some (.cells vs ty (0, 0)) := hh
      rw [z1] at hh'; cases hh'; rfl
    subst e0
    obtain ⟨v, h1, h2⟩ := z2.get (nthC_get hc)
    have hvk : v = g.hd k := h2 _ _ _ _ _ hk
    have h3 := hv.set (i := off) (v := v) (x := .sl e xs) (hvk ▸ c1)
    rw [hcs] at h3
    have h4 : vs0.toList.set off v = vs0.toList := by
      obtain ⟨hl, rfl⟩ := List.getElem?_eq_some_iff.1 h1
      exact List.set_getElem_self hl
    rwa [h4] at h3)
  have r2 := r.next0 (g' := g.shut k) (l' := (b, some (.box cs')) :: (k, none) :: s.l) (w' := w) (fun _ _ => rfl) (fun _ h => .inl h) (Nat.le_refl _) (fun j hj => (ok1 j).trans (ok2 j)) m2
  exact Go.wp_mono (h _ a w r2) fun e a1 w1 h1 => h1.trans r.mem m2 ((st1 K).trans r.mem m1 (st2 K))
end shut
end Go.Proofs.Ytfdpigafekohgaa

/- Operations whose new array is at once given up to be read alone. -/
namespace Go.Proofs.Ytfdpigafekohgaa
open Go.RowKit
set_option linter.unusedVariables false

section
variable {g g' : Gh} {l l' : Locs} {w w' : World}
theorem okK.congr {l2 : Locs} (h : ∀ j, lkl l' j = lkl l2 j) {k : Nat} (hk : okK g l g' l' k) : okK g l g' l2 k :=
  ⟨fun cs hc => hk.1 cs (by rw [h]; exact hc), fun α T e xs d hc => hk.2 α T e xs d (by rw [h]; exact hc)⟩
theorem okK.back {l2 : Locs} (h : ∀ j, lkl l j = lkl l2 j) {k : Nat} : okK g l g l2 k := okK.same (h k).symm rfl rfl
theorem MemR.congr (h : ∀ j, lkl l j = lkl l' j) (m : MemR g l w) : MemR g l' w := by
  refine ⟨m.ilt, fun k cs hc => ?_, fun k α T e xs d hc => m.arr k _ _ _ _ _ (by rw [h]; exact hc), fun j k b b' hjk h1 h2 => m.dis j k _ _ hjk (by rw [h]; exact h1) (by rw [h]; exact h2), fun k α T e xs hc => m.fr k _ _ _ _ (by rw [h]; exact hc), fun j k α β T U e f xs ys hjk h1 h2 => m.fd j k _ _ _ _ _ _ _ _ hjk (by rw [h]; exact h1) (by rw [h]; exact h2)⟩
  obtain ⟨vs, t, h1, h2, h3⟩ := m.box k cs (by rw [h]; exact hc)
  exact ⟨vs, t, h1, h2.mono fun a c _ hr => CellR.step (fun _ _ => rfl) (fun _ h => h) (Nat.le_refl _) (fun i _ => okK.back h) hr, h3⟩
theorem VR.congr (h : ∀ j, lkl l j = lkl l' j) {v : Value} {x : AVal} (hv : VR g l w v x) : VR g l' w v x := hv.step (fun _ _ => rfl) (fun _ h => h) (Nat.le_refl _) (fun i _ => okK.back h)
theorem OwnB.congr (h : ∀ j, lkl l j = lkl l' j) {b : Nat} (hb : OwnB g l b) : OwnB g l' b := by
  obtain ⟨k, blk, h1, h2⟩ := hb
  exact ⟨k, blk, by rw [← h]; exact h1, h2⟩
end
section ops
variable {P : Program} {N : Nat} {s : St} {d : Nat} {ty : TypeId} {pos : String} {after : Array Edge} {gd : Option (Nat × Bool)}
end ops
end Go.Proofs.Ytfdpigafekohgaa

/- Loads from the elements of an own array, in the abstract walk. -/
namespace Go.Proofs.Ytfdpigafekohgaa
open Go.RowKit
set_option linter.unusedVariables false
section
variable {P : Program} {N d : Nat} {s : St} {ty : TypeId} {pos : String} {after : Array Edge} {gd : Option (Nat × Bool)}
theorem op_cells {α : Type} {e : Enc α} {f : α → List Cell} [hc : CellsOf e f] {g : Gh} {l : Locs} {w : World} (m : MemR g l w) {k i : Nat} {T : TypeId} {xs : List α} {dp : Bool} (hk : lkl l k = some (.arr T e xs dp)) (hi : i < xs.length) :
    ∃ cs : List Value, All2 (CellR g l w) cs (f xs[i]) ∧ ∀ j u, cs[j]? = some u → w.cell? ⟨g.ρ k, i * e.size + j, none⟩ = some u := by
  rcases m.arr k α T e xs dp hk with ⟨h1, _, _⟩ | ⟨cap, vs, bss, h1, h2, h3, h4, h5, h6, h7, h8, h9⟩
  · subst h1; simp at hi
  · have hi' : i < bss.length := by rw [h6.1]; exact hi
    obtain ⟨cs, q1, q2⟩ := h6.2 i xs[i] bss[i] (List.getElem?_eq_getElem hi) (List.getElem?_eq_getElem hi')
    exact ⟨cs, (hc.iff.1 q1).all2 (fun b hb => h7 b (List.mem_flatten.2 ⟨_, List.getElem_mem hi', hb⟩)), fun j u hu => by have := q2 j u hu; rwa [Nat.zero_add] at this⟩
theorem x_oload1 {α : Type} {e : Enc α} {f : α → List Cell} [hc : CellsOf e f] {T E k i off : Nat} {x : Operand} {xs : List α} {dp : Bool} {y : Cell} (hN : Nat.blt d N = true) (h : evo s.t x = some (.one (.optr k i off))) (hl : lkl s.l k = some (.arr E e xs dp)) (hT : kindT P T = some none) (hi : i < xs.length) (hy : nthC (f xs[i]) off = some y) :
    Stp P N ⟨some d, .load T x, ty, pos, after, gd⟩ s ⟨(d, .one y) :: s.t, s.l⟩ ⟨rdo x (.one (.optr k i off)), [(k, .arr E e xs dp)], [(d, .one y)], [], []⟩ :=
  Stp.pure rfl hN (rdo_of h) (by simpa using hl) fun g s' a w ht hl' r => by
    have hk : lkl s'.l k = some (.arr E e xs dp) := hl' (k, .arr E e xs dp) (by simp)
    have hv : a.eval x = .pointer (some ⟨g.ρ k, i * e.size + off, none⟩) := eval_ok r (evs_of h) ht _ _ _ _ _ hk
    obtain ⟨cs, h2, h3⟩ := op_cells r.mem hk hi
    obtain ⟨v, h4, h5⟩ := h2.get (nthC_get hy)
    exact ⟨v, by simp only [execOp, Instr.loadAt, hv, Instr.sureAddr, Sem.run_bind, Sem.run_pure, Result.andThen_ok, run_load_one hT (h3 off v h4)], h5⟩
theorem x_oloadN {α : Type} {e : Enc α} {f : α → List Cell} [hc : CellsOf e f] {T E k i off n : Nat} {x : Operand} {xs : List α} {dp : Bool} {cs1 ys : List Cell} (hN : Nat.blt d N = true) (h : evo s.t x = some (.one (.optr k i off))) (hl : lkl s.l k = some (.arr E e xs dp)) (hT : kindT P T = some (some n)) (hi : i < xs.length) (hd : drC off (f xs[i]) = some cs1) (hy : tkC n cs1 = some ys) :
    Stp P N ⟨some d, .load T x, ty, pos, after, gd⟩ s ⟨(d, .agg ys) :: s.t, s.l⟩ ⟨rdo x (.one (.optr k i off)), [(k, .arr E e xs dp)], [(d, .agg ys)], [], []⟩ :=
  Stp.pure rfl hN (rdo_of h) (by simpa using hl) fun g s' a w ht hl' r => by
    have hk : lkl s'.l k = some (.arr E e xs dp) := hl' (k, .arr E e xs dp) (by simp)
    have hv : a.eval x = .pointer (some ⟨g.ρ k, i * e.size + off, none⟩) := eval_ok r (evs_of h) ht _ _ _ _ _ hk
    obtain ⟨cs, h2, h3⟩ := op_cells r.mem hk hi
    have h4 := (h2.drop off).take n
    rw [← drC_eq hd, ← (tkC_eq hy).1] at h4
    have hrun := run_load_agg hT (w := w) (a := ⟨g.ρ k, i * e.size + off, none⟩) (vs := (cs.drop off).take n) (by rw [h4.len]; exact (tkC_eq hy).2) (fun j v hj => by
      rw [List.getElem?_take] at hj
      split at hj
      · rw [addr_add, Nat.add_assoc]; exact h3 _ v (by simpa using hj)
      · cases hj)
    exact ⟨_, by simp only [execOp, Instr.loadAt, hv, Instr.sureAddr, Sem.run_bind, Sem.run_pure, Result.andThen_ok, hrun], ⟨_, rfl, h4⟩⟩
end
end Go.Proofs.Ytfdpigafekohgaa

/- Data that lead nowhere. -/
namespace Go.Proofs.Ytfdpigafekohgaa
open Go.RowKit
set_option linter.unusedVariables false
theorem intE_nofp {k : IntKind} : ∀ w cs (y : Int) b, (intE k).rep w cs y b → b = [] := fun w cs y b h => h.2.2
/-! truth values compared -/
section ops
variable {P : Program} {N : Nat} {s : St} {d : Nat} {ty : TypeId} {pos : String} {after : Array Edge} {gd : Option (Nat × Bool)}
end ops
/-! rows picked out -/
def filtTo {α : Type} (p : α → Bool) (rows : List α) (k : Nat) : List α := (rows.take k).filter p
theorem filtTo_zero {α : Type} {p : α → Bool} {rows : List α} : ([] : List α) = filtTo p rows 0 := rfl
theorem filtTo_yes {α : Type} {p : α → Bool} {rows : List α} {k : Nat} (hk : k < rows.length) (h : p rows[k] = true) : filtTo p rows k ++ [rows[k]] = filtTo p rows (k + 1) := by
  unfold filtTo; rw [List.take_succ_eq_append_getElem hk, List.filter_append]; simp [h]
theorem filtTo_no {α : Type} {p : α → Bool} {rows : List α} {k : Nat} (hk : k < rows.length) (h : p rows[k] = false) : filtTo p rows k = filtTo p rows (k + 1) := by
  unfold filtTo; rw [List.take_succ_eq_append_getElem hk, List.filter_append]; simp [h]
theorem filtTo_len {α : Type} {p : α → Bool} {rows : List α} {k : Nat} : (filtTo p rows k).length ≤ rows.length := by
  unfold filtTo; exact Nat.le_trans (List.length_filter_le ..) (by simp; omega)
theorem filtTo_all {α : Type} {p : α → Bool} {rows : List α} {k : Nat} (hk : rows.length ≤ k) : filtTo p rows k = rows.filter p := by
  unfold filtTo; rw [List.take_of_length_le hk]
end Go.Proofs.Ytfdpigafekohgaa

/- The abstract walk: a slice is nil or it is not. -/
namespace Go.Proofs.Ytfdpigafekohgaa
open Go.RowKit
set_option linter.unusedVariables false
def caught (L : Locs) (ks : List Nat) : Bool := ks.all fun k => L.any fun p => Nat.beq p.1 k && (match p.2 with | some (.box _) => true | _ => false)
theorem caught_of {L : Locs} {ks : List Nat} (h : caught L ks = true) : ∀ k ∈ ks, ∃ cs, (k, some (Blk.box cs)) ∈ L := fun k hk => by
  obtain ⟨⟨j, b⟩, h1, h2⟩ := List.any_eq_true.1 (List.all_eq_true.1 h k hk)
  simp only [Bool.and_eq_true] at h2
  have e := Nat.eq_of_beq_eq_true h2.1
  subst e
  match b, h2.2, h1 with
  | some (.box cs), _, h1 => exact ⟨cs, h1⟩
section rules
variable {P : Program} {N : Nat} {K : List Nat} {Kn : St → Prop} {Q : Exit → St → Prop} {s : St}
theorem AW_split {α : Type} {e : Enc α} {xs : List α} {c : Code} (t : Nat) (h : lk s.t t = some (.one (.sl e xs))) (h1 : xs = [] → AW P N K c Kn Q ⟨(t, .one (.c (.slice none 0 0))) :: s.t, s.l⟩)
    (h2 : AW P N K c Kn Q ⟨(t, .one (.sn e xs)) :: s.t, s.l⟩) : AW P N K c Kn Q s := fun g a w r => by
  obtain ⟨ad, n, cap, bs, hv, hS, hI⟩ : CellR g s.l w (a.tmps.getD t undef) (.sl e xs) := r.tmp t _ h
  have up : ∀ {x : AVal}, VR g s.l w (a.tmps.getD t undef) x → Rep N g ⟨(t, x) :: s.t, s.l⟩ a w := fun {x} hx => ⟨r.size, r.defers, fun j y hj => by
    by_cases e : t = j
    · subst e; rw [lk_cons_self] at hj; cases hj; exact hx
    · rw [lk_cons_ne e] at hj; exact r.tmp j y hj, r.mem⟩
  cases ad with
  | none =>
    have hc := hS.2.2.2.1 rfl
    have hn : n = 0 := by have := hS.2.1; omega
    have hx : xs = [] := List.eq_nil_of_length_eq_zero (by have := hS.1; omega)
    subst hc; subst hn
    exact h1 hx g a w (up (x := .one (.c (.slice none 0 0))) ⟨hv, trivial⟩)
  | some ad => exact h2 g a w (up (x := .one (.sn e xs)) ⟨ad, n, cap, bs, hv, hS, hI⟩)
end rules
section names
variable {P : Program} {N : Nat} {dr : Bool} {ops r : List Oper} {opsA : Array Oper} {Kn : St → Prop} {s : St} {acc : List Cert}
/-- A truth value that a call with lent blocks returns gets a name. -/
theorem AL_bc {d : Nat} {op : Op} {ty : TypeId} {pos : String} {after : Array Edge} {e : Bool} {l' wl : Locs} {nw : List Nat} {rt : List (Nat × AVal)} {rl : List (Nat × Blk)} (h : Stp P N ⟨some d, op, ty, pos, after, none⟩ s ⟨(d, .one (.c (.bool e))) :: s.t, l'⟩ ⟨rt, rl, [(d, .one (.c (.bool e)))], wl, nw⟩)
    (next : ∀ b, e = b → AL P N dr opsA Kn r ⟨(d, .one (.c (.bool b))) :: s.t, l'⟩ (⟨rt, rl, [(d, .one (.c (.bool b)))], wl, nw⟩ :: acc)) : AL P N dr opsA Kn (⟨some d, op, ty, pos, after, none⟩ :: r) s acc :=
  AL_p h (next e rfl)
end names
section ops
variable {P : Program} {N : Nat} {s : St} {d : Nat} {ty : TypeId} {pos : String} {after : Array Edge} {gd : Option (Nat × Bool)}
theorem guard_slice {op : BinOp} {T : TypeId} {x y : Operand} {a b : Option Addr} {n c m k : Nat} {w : World} : (eqGuard op T x y (.slice a n c) (.slice b m k)).run P w = .ok () w := by cases op <;> rfl
theorem x_nilnil {T T' E n : Nat} {x y : Operand} (hN : Nat.blt d N = true) (h : evo s.t x = some (.one (.c (.slice none 0 0)))) (h2 : evo s.t y = some (.one (.c (.slice none 0 0)))) (hT : sliceT P T = some (E, n)) :
    Stp P N ⟨some d, .binOp .eql T x y T', ty, pos, after, gd⟩ s ⟨(d, .one (.c (.bool true))) :: s.t, s.l⟩ ⟨rdo x (.one (.c (.slice none 0 0))) ++ rdo y (.one (.c (.slice none 0 0))), [], [(d, .one (.c (.bool true)))], [], []⟩ :=
  Stp.pure rfl hN (two_rd h h2) (by simp) fun g s' a w ht hl' r => by
    obtain ⟨⟨e1, _⟩, e2, _⟩ := two_c r (evs_of h) (evs_of h2) ht
    refine ⟨.bool true, run_binOp rfl ?_, rfl, trivial⟩
    rw [e1, e2]
    simp only [Sem.run_bind, guard_slice, Result.andThen_ok, Lib.run_eql_slice_nil w T E none 0 0 0 0 (sliceT_spec hT).1]; rfl
theorem x_snnil {α : Type} {e : Enc α} {xs : List α} {T T' E n : Nat} {x y : Operand} (hN : Nat.blt d N = true) (h : evo s.t x = some (.one (.sn e xs))) (h2 : evo s.t y = some (.one (.c (.slice none 0 0)))) (hT : sliceT P T = some (E, n)) :
    Stp P N ⟨some d, .binOp .eql T x y T', ty, pos, after, gd⟩ s ⟨(d, .one (.c (.bool false))) :: s.t, s.l⟩ ⟨rdo x (.one (.sn e xs)) ++ rdo y (.one (.c (.slice none 0 0))), [], [(d, .one (.c (.bool false)))], [], []⟩ :=
  Stp.pure rfl hN (two_rd h h2) (by simp) fun g s' a w ht hl' r => by
    obtain ⟨ad, m, cap, bs, e1, _⟩ : CellR g s'.l w (a.eval x) (.sn e xs) := eval_ok r (evs_of h) fun p hp => ht p (List.mem_append_left _ hp)
    obtain ⟨e2, _⟩ : a.eval y = .slice none 0 0 ∧ wfV _ := eval_ok r (evs_of h2) fun p hp => ht p (List.mem_append_right _ hp)
    refine ⟨.bool false, run_binOp rfl ?_, rfl, trivial⟩
    rw [e1, e2]
    simp only [Sem.run_bind, guard_slice, Result.andThen_ok, Lib.run_eql_slice_nil w T E (some ad) m cap 0 0 (sliceT_spec hT).1]; rfl
theorem x_move_sn {α : Type} {e : Enc α} {xs : List α} {x : Operand} (hN : Nat.blt d N = true) (h : evo s.t x = some (.one (.sn e xs))) : Stp P N ⟨some d, .move x, ty, pos, after, gd⟩ s ⟨(d, .one (.sl e xs)) :: s.t, s.l⟩ ⟨rdo x (.one (.sn e xs)), [], [(d, .one (.sl e xs))], [], []⟩ :=
  Stp.pure rfl hN (rdo_of h) (by simp) fun g s' a w ht hl' r => by
    obtain ⟨ad, m, cap, bs, e1, e2, e3⟩ : CellR g s'.l w (a.eval x) (.sn e xs) := eval_ok r (evs_of h) ht
    exact ⟨a.eval x, by simp [execOp], some ad, m, cap, bs, e1, e2, e3⟩
end ops
/-- What lies in memory is not too long. -/
theorem AW_slmax {P : Program} {N : Nat} {K : List Nat} {c : Code} {Kn : St → Prop} {Q : Exit → St → Prop} {s : St} {α : Type} {e : Enc α} {xs : List α} (t : Nat) (h : lk s.t t = some (.one (.sl e xs))) (hA : xs.length ≤ 9223372036854775807 → AW P N K c Kn Q s) : AW P N K c Kn Q s := fun g a w r => by
  obtain ⟨a0, n, cap, bs, _, h1, _⟩ : ∃ a0 n cap bs, a.tmps.getD t undef = .slice a0 n cap ∧ SliceRep e w a0 n cap xs bs ∧ ∀ b ∈ bs, g.I b := r.tmp t _ h
  exact hA h1.max g a w r
theorem AW_aggmax {P : Program} {N : Nat} {K : List Nat} {c : Code} {Kn : St → Prop} {Q : Exit → St → Prop} {s : St} {α : Type} {e : Enc α} {xs : List α} {cs : List Cell} (t i : Nat) (h : lk s.t t = some (.agg cs)) (hi : nthC cs i = some (.sl e xs)) (hA : xs.length ≤ 9223372036854775807 → AW P N K c Kn Q s) : AW P N K c Kn Q s := fun g a w r => by
  obtain ⟨vs, _, h2⟩ : ∃ vs : List Value, a.tmps.getD t undef = .agg vs.toArray ∧ All2 (CellR g s.l w) vs cs := r.tmp t _ h
  obtain ⟨v, _, h4⟩ := h2.get (nthC_get hi)
  obtain ⟨a0, n, cap, bs, _, h1, _⟩ := h4
  exact hA h1.max g a w r
end Go.Proofs.Ytfdpigafekohgaa

/- From a contract of the abstract walk back to a call in a world. -/
namespace Go.Proofs.Ytfdpigafekohgaa
open Go.RowKit
set_option linter.unusedVariables false

/-- All memory that stands is read alone. -/
def allI (w : World) : Gh := ⟨fun b => b < w.heap.size, id, fun _ => .slice none 0 0, fun _ => []⟩
theorem allI_mem (w : World) : MemR (allI w) [] w :=
  ⟨fun b hb => hb, fun k cs hk => (by simp [lkl, lk] at hk), fun k α T e xs d hk => (by simp [lkl, lk] at hk), fun j k b b' _ hj => (by simp [lkl, lk] at hj), fun k α T e xs hk => (by simp [lkl, lk] at hk), fun j k α β T U e f xs ys _ hj => (by simp [lkl, lk] at hj)⟩
theorem Step.below {g g' : Gh} {w w' : World} (h : Step (keys ([] : Locs)) g [] w g' [] w') : Below w.heap.size w w' :=
  ⟨h.os, h.tape, h.output, h.size, fun b hb => h.keep b hb fun k blk hk => (by simp [lkl, lk] at hk)⟩
theorem AC.calls {P : Program} {f : FuncId} {args : List AVal} {v : Value} (h : AC P f args [] (.one (.c v)) []) (w : World) (cargs : Array Value) (ha : All2 (VR1 (allI w) [] w) cargs.toList args) :
    Calls P f cargs w fun e w' => e = .returned v ∧ Below w.heap.size w w' :=
  (h.run (allI w) w cargs (allI_mem w) ha).mono fun e w' ⟨u, g', he, _, hv, hs⟩ => ⟨by rw [he, show u = v from hv.1], hs.below⟩
theorem arg_sl {α : Type} {e : Enc α} {w : World} {a : Option Addr} {n cap : Nat} {xs : List α} {b : List Nat} (h : SliceRep e w a n cap xs b) (hb : ∀ i ∈ b, i < w.heap.size) : VR1 (allI w) [] w (.slice a n cap) (.one (.sl e xs)) := ⟨a, n, cap, b, rfl, h, hb⟩
end Go.Proofs.Ytfdpigafekohgaa

/- From contracts that leave own memory to calls in a world: what is handed back is fresh. -/
namespace Go.Proofs.Ytfdpigafekohgaa
open Go.RowKit
set_option linter.unusedVariables false

end Go.Proofs.Ytfdpigafekohgaa

/- The abstract walk: make. -/
namespace Go.Proofs.Ytfdpigafekohgaa
open Go.RowKit
set_option linter.unusedVariables false

theorem plainL_fr {w : World} : ∀ {vs : List Value} {cs : List Cell}, plainL vs = some cs → FR w vs cs []
  | [], cs, h => by cases h; rfl
  | v :: vs, cs, h => by
    simp only [plainL] at h
    split at h
    · rename_i hb hc
      cases h
      exact ⟨[], [], rfl, ⟨rfl, wf_of_plain hb, rfl⟩, plainL_fr hc⟩
    · cases h
section ops
variable {P : Program} {N : Nat} {s : St} {d : Nat} {ty : TypeId} {pos : String} {after : Array Edge} {gd : Option (Nat × Bool)}
/-- A new array of n zero elements. -/
theorem x_make {α : Type} {e : Enc α} {f : α → List Cell} [hc : CellsOf e f] {T E n : Nat} {x y : Operand} (x0 : α) {z : Value} {cs : List Cell} (k : Nat) (hN : Nat.blt d N = true)
    (h : evo s.t x = some (.one (.c (.int .i64 (n : Int))))) (h2 : evo s.t y = some (.one (.c (.int .i64 (n : Int))))) (hz : zeroT P E = some z) (hzc : plainL z.cells.toList = some cs) (hfit : FitL cs (f x0))
    (hk : lk s.l k = none) (hi : noId k s.ids = true) (hT : arrOk P T E e.size = true) (hn : n ≤ 1000000000) :
    Stp P N ⟨some d, .makeSlice T x y, ty, pos, after, gd⟩ s ⟨(d, .one (.own k)) :: s.t, (k, some (.arr E e (List.replicate n x0) true)) :: s.l⟩ ⟨rdo x (.one (.c (.int .i64 (n : Int)))) ++ rdo y (.one (.c (.int .i64 (n : Int)))), [], [(d, .one (.own k))], [(k, some (.arr E e (List.replicate n x0) true))], [k]⟩ := by
  refine ⟨fun K g s' a w hp r => ?_, ⟨two_rd h h2, by simp, fun j hj => by simp at hj; subst hj; exact ⟨hk, noId_of hi⟩⟩, rfl⟩
  obtain ⟨p1, p2, p3⟩ := hp
  obtain ⟨⟨e1, _⟩, e2, _⟩ := two_c r (evs_of h) (evs_of h2) p1
  obtain ⟨n1, n2⟩ := p3 k (by simp)
  obtain ⟨b, hTT, hb⟩ := arrOk_spec hT
  obtain ⟨hu, hn0, ti, z', hti, hz', hzs, htis, htib⟩ := arrT_spec hTT
  have hzz : z' = z := by
    unfold zeroT at hz
    rw [hti] at hz
    simp only at hz
    rw [hz'] at hz
    exact Option.some.inj hz
  subst hzz
  have hb' := Nat.le_of_ble_eq_true hb
  have hrun := run_make_rowN (P := P) T E ti z' hu hti hz' .i64 .i64 n n (Nat.le_refl _) (by
    rw [htib]
    have : b * n ≤ 100000 * 1000000000 := Nat.mul_le_mul hb' hn
    omega) (by omega) w
  rw [htis] at hrun
  have hrep : ∀ w, e.rep w z'.cells.toList x0 [] := fun w => hc.iff.2 ((plainL_fr hzc).fit hfit)
  obtain ⟨bs, hS, hF⟩ := SliceRep.made hrep hn0 n (by unfold maxLen; omega) w E
  have hmax : n ≤ maxLen := by unfold maxLen; omega
  have hsz : (madeCells z'.cells (n * e.size)).size = n * e.size := by simp [madeCells]
  obtain ⟨g', q1, q2, q3, q4, q5, q6, q7⟩ := arr_new (w' := w.alloc (.cells (madeCells z'.cells (n * e.size)) E)) r.mem n1 (fun h => n2 (List.mem_append_right _ h)) (js := []) (fz := []) (fun _ h => h) (fun j hj => by cases hj) (T := E) (e := e) (xs := List.replicate n x0) (d := true) (blk := w.heap.size) (v := .slice (some ⟨w.heap.size, 0, none⟩) n n) (fp := [])
    rfl rfl rfl (by simp) (fun b hb _ => Below.heap_alloc w _ b hb)
    (.inr ⟨n, madeCells z'.cells (n * e.size), List.replicate n [], by
      show setAt g.hd k _ k = .slice (some ⟨setAt g.ρ k _ k, 0, none⟩) _ _
      rw [setAt_self, setAt_self]; simp, by simp, hmax, by
      show (w.alloc _).heap[setAt g.ρ k _ k]? = _
      rw [setAt_self]; exact heap_alloc_new w _, hsz, by
      show Elems e _ (setAt g.ρ k _ k) 0 _ _
      rw [setAt_self]
      refine ⟨by simp, fun i x b hx hb => ?_⟩
      have hi : i < n := by have := (List.getElem?_eq_some_iff.1 hx).1; simpa using this
      have hne : List.replicate n x0 ≠ [] := by intro e; have := congrArg List.length e; simp at this; omega
      obtain ⟨g2, off, bss, ha, _, _, hE⟩ := hS.parts hne
      simp only [Option.some.injEq, Addr.mk.injEq, and_true] at ha
      obtain ⟨rfl, rfl⟩ := ha
      rw [List.getElem?_replicate, if_pos hi] at hx hb
      cases hx; cases hb
      have hzl : z'.cells.size = e.size := by simpa using e.len (hrep w)
      refine ⟨z'.cells.toList, hrep _, fun j u hu => ?_⟩
      have hj : j < z'.cells.size := by have := (List.getElem?_eq_some_iff.1 hu).1; simpa using this
      rw [cell_of_heap (heap_alloc_new w _), Nat.zero_add]
      have := madeCells_get (z := z'.cells) hi hj
      rw [hzl] at this
      rw [this]
      simpa [List.getElem?_eq_getElem (l := z'.cells.toList) (by simpa using hj)] using hu,
      (fun b hb => by simp at hb), (fun hI => by
        have h3 : (g.I (setAt g.ρ k w.heap.size k) ∨ liveA g [] (setAt g.ρ k w.heap.size k)) := hI
        rw [setAt_self] at h3
        rcases h3 with hI | ⟨j, hj, _⟩
        · have := r.mem.ilt _ hI; omega
        · cases hj), fun _ => by show setAt g.F k [] k = _; rw [setAt_self]; simp⟩)
    (fun _ => ⟨by simp, .inl (Nat.le_refl _)⟩) (fun _ => ⟨List.nodup_nil, fun b hb => by cases hb⟩)
  unfold Oper.wp
  have hrun' : (execOp a.eval ⟨some d, .makeSlice T x y, ty, pos, after, gd⟩).run P w = .ok (.value (.slice (some ⟨w.heap.size, 0, none⟩) n n)) (w.alloc (.cells (madeCells z'.cells (n * e.size)) E)) := by
    simp only [execOp, e1, e2, Sem.run_bind, hrun, Result.andThen_ok]; rfl
  rw [hrun', Oper.upon_value]
  refine ⟨g', r.next (blt_lt hN) q5 q6 (by simp) (fun j hj => q7 j fun e => n2 (e ▸ hj)) (fun β U e2 ys dd hc => ?_) q3, q4 K⟩
  exact q2.symm
end ops
end Go.Proofs.Ytfdpigafekohgaa

/- The abstract walk: an element of an own array written anew. -/
namespace Go.Proofs.Ytfdpigafekohgaa
open Go.RowKit
set_option linter.unusedVariables false
section
variable {g : Gh} {l : Locs} {w w' : World}
/-- The array k holds other elements; the arrays js are gone into it. -/
theorem arr_put (m : MemR g l w) {k : Nat} {α : Type} {T : TypeId} {e : Enc α} {xs0 xs : List α} {d0 d : Bool} (hk : lkl l k = some (.arr T e xs0 d0)) (hlv : g.hd k ≠ .slice none 0 0) {js : List Nat} (hkj : k ∉ js)
    (hjs : ∀ j ∈ js, ∃ (α : Type) (T : TypeId) (e : Enc α) (xs : List α) (d : Bool), lkl l j = some (.arr T e xs d)) {fp : List Nat}
    (hos : w'.os = w.os) (htp : w'.tape = w.tape) (hout : w'.output = w.output) (hs : w'.heap.size = w.heap.size) (hkeep : ∀ b, b ≠ g.ρ k → w'.heap[b]? = w.heap[b]?)
    (hA : ArrR ⟨fun b => g.I b ∨ liveA g js b, g.ρ, g.hd, setAt g.F k fp⟩ w' k T e xs d)
    (hfp : d = true → fp.Nodup ∧ ∀ b ∈ fp, (g.I b ∨ liveA g js b) ∧ (∃ c t, w'.heap[b]? = some (.cells c t (0, 0))) ∧ ((d0 = true ∧ b ∈ g.F k) ∨ ∃ j ∈ js, Via g l j b)) :
    ∃ g', g'.ρ k = g.ρ k ∧ g'.hd k = g.hd k ∧ MemR g' ((k, some (.arr T e xs d)) :: (gones js ++ l)) w' ∧ (∀ K, Step K g l w g' ((k, some (.arr T e xs d)) :: (gones js ++ l)) w') ∧
      (∀ b, g.I b → w'.heap[b]? = w.heap[b]?) ∧ (∀ b, g.I b → g'.I b) ∧ ∀ j, okK g l g' ((k, some (.arr T e xs d)) :: (gones js ++ l)) j := by
  let g' : Gh := ⟨fun b => g.I b ∨ liveA g js b, g.ρ, g.hd, setAt g.F k fp⟩
  have hnI := m.notI hk hlv
  have hi : ∀ b, g.I b → w'.heap[b]? = w.heap[b]? := fun b hb => hkeep b fun e => hnI (e ▸ hb)
  have hl' : ∀ j, j ≠ k → lkl ((k, some (.arr T e xs d)) :: (gones js ++ l)) j = if j ∈ js then none else lkl l j := fun j hj => by
    rw [lkl_cons_ne (Ne.symm hj), lkl_gones]
  have hu : ∀ j, j ≠ k → lkl ((k, some (.arr T e xs d)) :: (gones js ++ l)) j = none ∨ Untouched g l w g' ((k, some (.arr T e xs d)) :: (gones js ++ l)) w' j := fun j hj => by
    by_cases h : j ∈ js
    · left; rw [hl' j hj, if_pos h]
    · right
      refine ⟨by rw [hl' j hj, if_neg h], rfl, rfl, setAt_ne hj, fun b hb hlv' => ⟨hkeep _ (m.dis j k _ _ hj hb hk hlv' hlv), fun hI => ?_⟩⟩
      rcases hI with hI | ⟨i, hij, hil, e⟩
      · exact m.notI hb hlv' hI
      · obtain ⟨_, _, _, _, _, h1⟩ := hjs i hij
        exact m.dis j i _ _ (fun e => h (e ▸ hij)) hb h1 hlv' hil e
  have ok : ∀ j, okK g l g' ((k, some (.arr T e xs d)) :: (gones js ++ l)) j := fun j => by
    by_cases hj : j = k
    · subst hj
      refine ⟨fun cs hc => ?_, fun β U e2 ys dd hc => ?_⟩
      · rw [lkl_cons_self] at hc; cases hc
      · rw [lkl_cons_self] at hc; cases hc
        exact ⟨α, T, e, xs0, d0, hk, rfl, rfl, rfl⟩
    · rcases hu j hj with h | h
      · exact okK.gone h
      · exact h.ok
  have hlt : ∀ b, g'.I b → b < w'.heap.size := fun b hb => by
    rw [hs]
    rcases hb with hb | ⟨i, hij, hil, e⟩
    · exact m.ilt b hb
    · obtain ⟨_, _, _, _, _, h1⟩ := hjs i hij
      rw [e]; exact m.lt h1 hil
  refine ⟨g', rfl, rfl, m.set1 k hi (fun b hb => .inl hb) (Nat.le_of_eq hs.symm) hlt hu (.inl (ok k)) (fun cs hc => ?_) (fun β U e2 ys d2 hc => ?_) (fun j b b' hj h1 h2 h3 l1 l2 => m.dis j k _ _ hj h2 hk l1 hlv) (fun β U e2 ys hc => ?_) (fun j β γ U V e2 e3 ys zs hj h1 h2 h3 => ?_), fun K => ?_, hi, fun b hb => .inl hb, ok⟩
  · rw [lkl_cons_self] at hc; cases hc
  · rw [lkl_cons_self] at hc; cases hc; exact hA
  · rw [lkl_cons_self] at hc; cases hc
    rw [show g'.F k = fp from setAt_self]
    obtain ⟨n1, n2⟩ := hfp rfl
    exact ⟨n1, fun b hb => ⟨(n2 b hb).1, (n2 b hb).2.1⟩⟩
  · rw [lkl_cons_self] at h3; cases h3
    rw [show g'.F k = fp from setAt_self]
    intro b hb hb'
    rcases ((hfp rfl).2 b hb').2.2 with ⟨rfl, h5⟩ | ⟨i, hij, hvia⟩
    · exact m.fd j k _ _ _ _ _ _ _ _ hj h2 hk b hb h5
    · have : j = i := Via.disj m (b := b) ⟨β, U, e2, ys, h2, .inr hb⟩ hvia
      subst this
      rw [hl' j hj, if_pos hij] at h1; cases h1
  · refine ⟨hos, htp, hout, Nat.le_of_eq hs.symm, fun b hb hn => hkeep b (hn k _ hk hlv), fun b hb => .inl hb, fun b hb => ?_, own_set1 k hu (fun b hb hl => .inl (OwnB.of_live hk hlv)) (fun β U e2 ys hc b hb => ?_), fun j hj hn => ?_⟩
    · rcases hb with hb | ⟨i, hij, hil, e⟩
      · exact .inl hb
      · obtain ⟨_, _, _, _, _, h1⟩ := hjs i hij
        exact .inr (.inr (e ▸ OwnB.of_live h1 hil))
    · rw [lkl_cons_self] at hc; cases hc
      rw [show g'.F k = fp from setAt_self] at hb
      rcases ((hfp rfl).2 b hb).2.2 with ⟨rfl, h5⟩ | ⟨i, hij, hvia⟩
      · exact .inl ⟨k, _, hk, .inr ⟨_, _, _, _, rfl, h5⟩⟩
      · exact .inl hvia.own
    · refine ⟨?_, ok j, fun cs hc => ?_⟩
      · by_cases hjk : j = k
        · subst hjk; rw [lk_cons_self]; simp
        · rw [lk_cons_ne (Ne.symm hjk), lk_gones]
          split
          · simp
          · exact hn
      · have hjk : j ≠ k := fun e => by subst e; rw [hk] at hc; cases hc
        refine ⟨cs, ?_⟩
        rw [hl' j hjk, if_neg]
        · exact hc
        · intro hjj
          obtain ⟨_, _, _, _, _, h1⟩ := hjs j hjj
          rw [hc] at h1; cases h1
end
section ops
variable {P : Program} {N : Nat} {s : St} {ty : TypeId} {pos : String} {after : Array Edge} {gd : Option (Nat × Bool)}
/-- A whole element written. -/
theorem x_ostore {α : Type} {e : Enc α} {f : α → List Cell} [hc : CellsOf e f] {T E n i k : Nat} {x y : Operand} {X : AVal} {xs : List α} (x' : α) {ds : List Cell} {js : List Nat} {d1 d2 : Bool} (h : evo s.t x = some (.one (.optr k i 0))) (hl : lkl s.l k = some (.arr E e xs d1)) (h2 : evo s.t y = some X) (hf : X.flat = true)
    (hT : sizeT P T = some n) (hn : X.cells.length = n) (hes : e.size = n) (hsol : X.cells.all (solid s.l) = true) (hmv : mvC s.l X.cells = some (ds, js, d2)) (hfit : FitL ds (f x')) (hnd : noDup js = true) (hkj : noId k js = true) (hi : i < xs.length) :
    Stp P N ⟨none, .store T x y, ty, pos, after, gd⟩ s ⟨s.t, (k, some (.arr E e (xs.set i x') (d1 && d2))) :: (gones js ++ s.l)⟩ ⟨rdo x (.one (.optr k i 0)) ++ rdo y X, (k, .arr E e xs d1) :: rlC s.l X.cells, [], (k, some (.arr E e (xs.set i x') (d1 && d2))) :: gones js, []⟩ := by
  refine ⟨fun K g s' a w hpre r => ?_, ⟨two_rd h h2, fun p hp => by
    rcases List.mem_cons.1 hp with rfl | hp
    · exact hl
    · exact rlC_self p hp, by simp⟩, by simp [Cert.upd]⟩
  obtain ⟨p1, p2, _⟩ := hpre
  have hk : lkl s'.l k = some (.arr E e xs d1) := p2 (k, .arr E e xs d1) (List.mem_cons_self ..)
  have p2' : ∀ p ∈ rlC s.l X.cells, lkl s'.l p.1 = some p.2 := fun p hp => p2 p (List.mem_cons_of_mem _ hp)
  have ha : a.eval x = .pointer (some ⟨g.ρ k, i * e.size + 0, none⟩) := (eval_ok r (evs_of h) fun p hm => p1 p (List.mem_append_left _ hm) : CellR g s'.l w _ (.optr k i 0)) _ _ _ _ _ hk
  have hv := eval_ok r (evs_of h2) fun p hm => p1 p (List.mem_append_right _ hm)
  have hs' : X.cells.all (solid s'.l) = true := List.all_eq_true.2 fun z hz => solid_of p2' hz (List.all_eq_true.1 hsol z hz)
  have hall := vr1_cells hs' r.mem hv hf
  have hmv' := mvC_of hmv p2'
  have hjn := noDup_of hnd
  have hkj' := noId_of hkj
  have hgone : ∀ j ∈ js, ∃ (α : Type) (T : TypeId) (e : Enc α) (xs : List α) (d : Bool), lkl s'.l j = some (.arr T e xs d) := fun j hj => (mvC_gone hmv' j hj).1
  obtain ⟨b', f1, f2, f3⟩ := mvC_ok r.mem hall hmv' hjn
  have hrep := hc.iff.2 (f1.fit hfit)
  have hlen : (a.eval y).cells.size = n := by rw [← hn]; simpa using hall.len
  have hll : (a.eval y).cells.toList.length = e.size := e.len hrep
  rcases r.mem.arr k _ _ _ _ _ hk with ⟨rfl, _⟩ | ⟨cap, vs, bss, g1, g2, g3, g4, g5, g6, g7, g8, g9⟩
  · simp at hi
  have hlv : g.hd k ≠ .slice none 0 0 := by rw [g1]; intro e; cases e
  have hib : i < bss.length := by rw [g6.1]; exact hi
  have hfitc : i * e.size + (a.eval y).cells.toList.length ≤ vs.size := by
    rw [hll, g5]
    have : (i + 1) * e.size ≤ cap * e.size := Nat.mul_le_mul_right _ (by omega)
    rw [Nat.add_mul] at this; omega
  have one : ∀ v ∈ (a.eval y).cells.toList, v.oneCell' = true := FR.one f1
  have hst := run_storeCells_at P (g.ρ k) (i * e.size) E (a.eval y).cells.toList 0 vs w g4 (by simpa using hfitc) one
  generalize hnew : (vs.toList.take (i * e.size) ++ (a.eval y).cells.toList ++ vs.toList.drop (i * e.size + (a.eval y).cells.toList.length)).toArray = new at *
  have hng : ∀ q, new[q]? = if i * e.size ≤ q ∧ q < i * e.size + e.size then (a.eval y).cells.toList[q - i * e.size]? else vs[q]? := fun q => by
    rw [← hnew, List.getElem?_toArray]
    have hl0 : (vs.toList.take (i * e.size)).length = i * e.size := by simp; omega
    rcases Nat.lt_or_ge q (i * e.size) with hq | hq
    · rw [if_neg (by omega), List.append_assoc, List.getElem?_append_left (by omega), List.getElem?_take, if_pos hq]; simp
    · rw [List.append_assoc, List.getElem?_append_right (by omega), hl0]
      rcases Nat.lt_or_ge q (i * e.size + e.size) with hq2 | hq2
      · rw [if_pos ⟨hq, hq2⟩, List.getElem?_append_left (by omega)]
      · rw [if_neg (by omega), List.getElem?_append_right (by omega), List.getElem?_drop, hll, show i * e.size + e.size + (q - i * e.size - e.size) = q by omega]; simp
  have hns : new.size = vs.size := by rw [← hnew]; simp; omega
  have hwk : (w.setRow (g.ρ k) new).heap[g.ρ k]? = some (.cells new E (0, 0)) := setRow_heap w _ _ _ E _ g4
  have hwo : ∀ b, b ≠ g.ρ k → (w.setRow (g.ρ k) new).heap[b]? = w.heap[b]? := fun b hb => setRow_other w _ b _ hb
  have hsz : (w.setRow (g.ρ k) new).heap.size = w.heap.size := by simp
  have hbk : ∀ b ∈ b', b ≠ g.ρ k := fun b hb eq => by
    rcases f2 b hb with h3 | ⟨j, hj, h3, h4⟩
    · exact g8 (eq ▸ h3)
    · obtain ⟨_, _, _, _, _, h5⟩ := hgone j hj
      exact r.mem.dis j k _ _ (fun e => hkj' (e ▸ hj)) h5 hk h3 hlv (h4 ▸ eq)
  have hE := g6.upd (w' := w.setRow (g.ρ k) new) (k := i) (x' := x') (b' := b') (e.keep hrep (fun b hb => hwo b (hbk b hb)) (Nat.le_of_eq hsz.symm)) (fun j u hu => by
      have hj := (List.getElem?_eq_some_iff.1 hu).1
      rw [cell_of_heap hwk, hng, if_pos (by omega), show 0 + i * e.size + j - i * e.size = j by omega, hu]) (fun q hq => by
      rw [cell_of_heap hwk, hng, cell_of_heap g4, if_neg (by rw [Nat.add_mul] at hq; omega)]) (fun q b hq hb c hcb => hwo c fun eq => g8 (eq ▸ g7 c (List.mem_flatten.2 ⟨b, List.mem_of_getElem? hb, hcb⟩))) (Nat.le_of_eq hsz.symm)
  have hmem : ∀ b ∈ (bss.set i b').flatten, g.I b ∨ liveA g js b := fun b hb => by
    rcases flatten_set bss hib b hb with h3 | h3
    · exact f2 b h3
    · exact .inl (g7 b h3)
  obtain ⟨g', q1, q2, q3, q4, q5, q6, q7⟩ := arr_put (w' := w.setRow (g.ρ k) new) r.mem hk hlv hkj' hgone (xs := xs.set i x') (d := d1 && d2) (fp := (bss.set i b').flatten) rfl rfl rfl hsz hwo
    (.inr ⟨cap, new, bss.set i b', by rw [List.length_set]; exact g1, by rw [List.length_set]; exact g2, g3, hwk, hns.trans g5, hE, hmem, (fun hI => by
      rcases hI with hI | ⟨j, hj, h3, h4⟩
      · exact g8 hI
      · obtain ⟨_, _, _, _, _, h5⟩ := hgone j hj
        exact r.mem.dis j k _ _ (fun e => hkj' (e ▸ hj)) h5 hk h3 hlv h4.symm), fun _ => setAt_self⟩)
    (fun hd => by
      simp only [Bool.and_eq_true] at hd
      obtain ⟨rfl, rfl⟩ := hd
      obtain ⟨n1, n2⟩ := f3 rfl
      have hF := g9 rfl
      have hvk : ∀ b ∈ bss.flatten, Via g s'.l k b := fun b hb => ⟨α, E, e, xs, hk, .inr (by rw [hF]; exact hb)⟩
      refine ⟨nodup_set n1 bss i hib (by rw [← hF]; exact (r.mem.fr k _ _ _ _ hk).1) (fun c hcb => .inr fun h3 => by
        obtain ⟨j, hj, hvj⟩ := n2 c hcb
        exact hkj' ((hvk c h3).disj r.mem hvj ▸ hj)), fun b hb => ⟨hmem b hb, ?_, ?_⟩⟩
      · rcases flatten_set bss hib b hb with h3 | h3
        · obtain ⟨j, hj, hvj⟩ := n2 b h3
          obtain ⟨c, t, h4⟩ := hvj.cells r.mem
          exact ⟨c, t, by rw [hwo b (hbk b h3)]; exact h4⟩
        · obtain ⟨c, t, h4⟩ := (hvk b h3).cells r.mem
          exact ⟨c, t, by rw [hwo b fun eq => g8 (eq ▸ g7 b h3)]; exact h4⟩
      · rcases flatten_set bss hib b hb with h3 | h3
        · exact .inr (n2 b h3)
        · exact .inl ⟨rfl, by rw [hF]; exact h3⟩)
  unfold Oper.wp
  have hrun : (execOp a.eval ⟨none, .store T x y, ty, pos, after, gd⟩).run P w = .ok .skip (w.setRow (g.ρ k) new) := by
    unfold sizeT at hT
    split at hT
    · rename_i ti hti
      cases hT
      simp only [execOp, Instr.storeAt, ha, Instr.sureAddr, storeVar, sizeOf, typeInfo, Sem.run_bind, Sem.run_pure, program, Sem.run, hti, Result.andThen_ok, hlen, ne_eq, not_true_eq_false, if_false]
      simp only [Nat.add_zero] at hst ⊢
      rw [hst]; rfl
    · cases hT
  rw [hrun, Oper.upon_skip]
  exact ⟨g', r.next0 q5 q6 (Nat.le_of_eq hsz.symm) (fun j _ => q7 j) q3, q4 K⟩
end ops
/-! filled from the front -/
def filledTo {α : Type} (xs : List α) (x0 : α) (k : Nat) : List α := xs.take k ++ List.replicate (xs.length - k) x0
theorem filledTo_len {α : Type} {xs : List α} {x0 : α} {k : Nat} (hk : k ≤ xs.length) : (filledTo xs x0 k).length = xs.length := by simp [filledTo]; omega
end Go.Proofs.Ytfdpigafekohgaa

/- Elements ars the cells that hold them: what a function that moves elements about does with an array of one's own, footprint and all. -/
namespace Go.Proofs.Ytfdpigafekohgaa
open Go.RowKit
set_option linter.unusedVariables false

/-- A datum, the cells that hold it, and its footprint. -/
structure Raw (α : Type) where
  x : α
  vs : List Value
  b : List Nat
def rxC {α : Type} (e : Enc α) (r : Raw α) (n j : Nat) : List Cell := match n with | 0 => [] | n + 1 => .rx e r.x r.vs r.b j :: rxC e r n (j + 1)
theorem rxC_len {α : Type} {e : Enc α} {r : Raw α} : ∀ {n j : Nat}, (rxC e r n j).length = n
  | 0, _ => rfl
  | n + 1, j => by rw [rxC, List.length_cons, rxC_len]
theorem rxC_lt {α : Type} {e : Enc α} {w : World} {r : Raw α} : ∀ {n j : Nat} {cs : List Value} {b : List Nat}, FR w cs (rxC e r n j) b → ∀ i ∈ b, i < w.heap.size
  | 0, j, [], b, h, i, hi => by
    have : b = [] := h
    subst this; cases hi
  | 0, j, _ :: _, b, h, i, hi => h.elim
  | n + 1, j, [], b, h, i, hi => h.elim
  | n + 1, j, c :: cs, b, h, i, hi => by
    obtain ⟨b1, b2, rfl, ⟨_, h1, rfl⟩, h2⟩ := h
    rcases List.mem_append.1 hi with hi | hi
    · exact e.lt h1 i hi
    · exact rxC_lt h2 i hi
/-- Raw elements of e. -/
def rawE {α : Type} (e : Enc α) : Enc (Raw α) where
  size := e.size
  rep := fun w cs r b => FR w cs (rxC e r e.size 0) b
  len := fun h => by rw [FR.length h, rxC_len]
  keep := fun h hk hs => FR.keep h hk hs
  lt := fun h => rxC_lt h
instance {α : Type} (e : Enc α) : CellsOf (rawE e) (fun r => rxC e r e.size 0) := ⟨Iff.rfl⟩
/-- A raw element's footprint ars its cells say it: once for each cell. -/
def rep3 (n : Nat) (b : List Nat) : List Nat := match n with | 0 => [] | n + 1 => b ++ rep3 n b
theorem rep3_mem {n : Nat} {b : List Nat} {i : Nat} : i ∈ rep3 n b → i ∈ b := by
  induction n with
  | zero => intro h; cases h
  | succ n ih => intro h; rcases List.mem_append.1 h with h | h; exact h; exact ih h
theorem FR.toRx {α : Type} {e : Enc α} {w : World} {r : Raw α} (hr : e.rep w r.vs r.x r.b) (h1 : ∀ u ∈ r.vs, u.oneCell' = true) : ∀ {n j : Nat}, n + j = r.vs.length → FR w (r.vs.drop j) (rxC e r n j) (rep3 n r.b)
  | 0, j, h => by rw [List.drop_eq_nil_of_le (by omega)]; exact rfl
  | n + 1, j, h => by
    rw [List.drop_eq_getElem_cons (by omega)]
    exact ⟨_, _, rfl, ⟨⟨List.getElem?_eq_getElem (by omega), h1 _ (List.getElem_mem _)⟩, hr, rfl⟩, FR.toRx hr h1 (by omega)⟩
theorem FR.ofRx {α : Type} {e : Enc α} {w : World} {r : Raw α} : ∀ {n j : Nat} {cs : List Value} {b : List Nat}, FR w cs (rxC e r n j) b → ∀ i u, cs[i]? = some u → r.vs[j + i]? = some u
  | 0, j, [], b, h, i, u, hu => by simp at hu
  | 0, j, _ :: _, b, h, i, u, hu => h.elim
  | n + 1, j, [], b, h, i, u, hu => h.elim
  | n + 1, j, c :: cs, b, h, i, u, hu => by
    obtain ⟨b1, b2, rfl, ⟨h0, h1, rfl⟩, h2⟩ := h
    cases i with
    | zero => simp at hu; subst hu; exact h0.1
    | succ i =>
      have := FR.ofRx h2 i u (by simpa using hu)
      rwa [show j + 1 + i = j + (i + 1) by omega] at this
theorem rx_rep {α : Type} {e : Enc α} (h0 : 0 < e.size) {w : World} {r : Raw α} {cs : List Value} {b : List Nat} (h : FR w cs (rxC e r e.size 0) b) : cs = r.vs ∧ e.rep w r.vs r.x r.b := by
  have hl := FR.length h
  rw [rxC_len] at hl
  have hrep : e.rep w r.vs r.x r.b := by
    obtain ⟨n, hn⟩ : ∃ n, e.size = n + 1 := ⟨e.size - 1, by omega⟩
    rw [hn] at h
    cases cs with
    | nil => exact h.elim
    | cons c cs =>
      obtain ⟨_, _, _, ⟨_, h1, _⟩, _⟩ := h
      exact h1
  refine ⟨List.ext_getElem? fun i => ?_, hrep⟩
  by_cases hi : i < cs.length
  · rw [List.getElem?_eq_getElem hi]
    have := FR.ofRx h i _ (List.getElem?_eq_getElem hi)
    rw [Nat.zero_add] at this
    exact this.symm
  · rw [List.getElem?_eq_none (by omega), List.getElem?_eq_none (by rw [e.len hrep]; omega)]
def feet {α : Type} (zs : List (Raw α)) : List Nat := (zs.map Raw.b).flatten
/-- An array's cells ars raw elements. -/
theorem raw_of {α : Type} {e : Enc α} {f : α → List Cell} [hc : CellsOf e f] {w : World} : ∀ {xs : List α} {cells : List Value} {bs : List Nat}, FR w cells (xs.flatMap f) bs →
    ∃ zs : List (Raw α), zs.map Raw.x = xs ∧ feet zs = bs ∧ ∃ b3, FR w cells (zs.flatMap fun r => rxC e r e.size 0) b3 ∧ ∀ i ∈ b3, i ∈ bs
  | [], [], bs, h => ⟨[], rfl, (show bs = [] from h).symm, [], rfl, fun i hi => by cases hi⟩
  | [], _ :: _, bs, h => h.elim
  | x :: xs, cells, bs, h => by
    rw [List.flatMap_cons] at h
    obtain ⟨v1, v2, b1, b2, rfl, rfl, h1, h2⟩ := FR.app.1 h
    obtain ⟨zs, q1, q2, b3, q3, q4⟩ := raw_of (e := e) h2
    have hr := hc.iff.2 h1
    refine ⟨⟨x, v1, b1⟩ :: zs, by rw [List.map_cons, q1], by unfold feet at *; rw [List.map_cons, List.flatten_cons, q2], rep3 e.size b1 ++ b3, ?_, fun i hi => ?_⟩
    · rw [List.flatMap_cons]
      refine FR.app.2 ⟨v1, v2, _, b3, rfl, rfl, ?_, q3⟩
      have := FR.toRx (r := ⟨x, v1, b1⟩) hr (FR.one h1) (n := e.size) (j := 0) (by simp [e.len hr])
      rwa [List.drop_zero] at this
    · rcases List.mem_append.1 hi with hi | hi
      · exact List.mem_append_left _ (rep3_mem hi)
      · exact List.mem_append_right _ (q4 i hi)
/-- .. and back. -/
theorem raw_to {α : Type} {e : Enc α} {f : α → List Cell} [hc : CellsOf e f] (h0 : 0 < e.size) {w : World} : ∀ {zs : List (Raw α)} {cells : List Value} {b3 : List Nat}, FR w cells (zs.flatMap fun r => rxC e r e.size 0) b3 → FR w cells ((zs.map Raw.x).flatMap f) (feet zs)
  | [], [], b3, h => rfl
  | [], _ :: _, b3, h => h.elim
  | r :: zs, cells, b3, h => by
    rw [List.flatMap_cons] at h
    obtain ⟨v1, v2, b1, b2, rfl, rfl, h1, h2⟩ := FR.app.1 h
    obtain ⟨rfl, hr⟩ := rx_rep h0 h1
    rw [List.map_cons, List.flatMap_cons]
    exact FR.app.2 ⟨_, _, r.b, feet zs, rfl, by simp [feet], hc.iff.1 hr, raw_to h0 h2⟩
theorem CLe.rx {α : Type} {e : Enc α} {f : α → List Cell} [hc : CellsOf e f] {x : α} {vs : List Value} {b : List Nat} {j : Nat} {y : Cell} (h : nthC (f x) j = some y) : CLe (.rx e x vs b j) y := fun g l w v h1 => by
  obtain ⟨v', h2, h3⟩ := ((hc.iff.1 h1.2.1).all2 h1.2.2).get (nthC_get h)
  have h4 := h1.1.1
  rw [h4] at h2; cases h2
  exact h3
theorem feet_sub {α : Type} {zs ys : List (Raw α)} (h : zs.Sublist ys) : (feet zs).Sublist (feet ys) := by
  unfold feet
  induction h with
  | slnil => exact List.Sublist.slnil
  | cons a h ih => rw [List.map_cons, List.flatten_cons]; exact ih.trans (List.sublist_append_right _ _)
  | cons_cons a h ih => rw [List.map_cons, List.map_cons, List.flatten_cons, List.flatten_cons]; exact (List.Sublist.refl _).append ih
end Go.Proofs.Ytfdpigafekohgaa

/- Contracts told of the cells of a row, ars contracts of arrays of one's own. -/
namespace Go.Proofs.Ytfdpigafekohgaa
open Go.RowKit
set_option linter.unusedVariables false

section
variable {g : Gh} {l : Locs} {w w' : World}
/-- A row of one's own made anew out of others, ars it is seen from numbers. -/
theorem row_lay (m : MemR g l w) {k k' : Nat} (hk' : lk l k' = none) (hki : k' ∉ l.ids) {js : List Nat} (hkj : k ∈ js) (hjs : ∀ j ∈ js, ∃ (α : Type) (T : TypeId) (e : Enc α) (xs : List α) (d : Bool), lkl l j = some (.arr T e xs d))
    {α : Type} {E : TypeId} {e : Enc α} {f : α → List Cell} [hc : CellsOf e f] {zs : List α} {d : Bool} {cells : List Value} {b3 : List Nat} {v' : Value}
    (hF : FR w cells (zs.flatMap f) b3) (hI : ∀ b ∈ b3, g.I b) (hob : ∀ b, (g.hd k).ownBlock = some b → b = g.ρ k)
    (hrow : w'.ownsRow 0 E e.size v' zs.length cells) (hgr : w.grownBy w' (g.hd k).ownBlock) (hblk : ∀ b, v'.ownBlock = some b → (g.hd k).ownBlock = some b ∨ w.heap.size ≤ b)
    (hd : d = true → b3.Nodup ∧ ∀ b ∈ b3, ∃ j ∈ js, Via g l j b) :
    ∃ g', g'.hd k' = v' ∧ MemR g' ((k', some (.arr E e zs d)) :: (gones js ++ l)) w' ∧ (∀ K, Step K g l w g' ((k', some (.arr E e zs d)) :: (gones js ++ l)) w') := by
  obtain ⟨α0, T0, e0, xs0, d0, hk0⟩ := hjs k hkj
  have hlive : ∀ b, (g.hd k).ownBlock = some b → g.hd k ≠ .slice none 0 0 := fun b hb e => by rw [e] at hb; cases hb
  have hnI : ∀ b, (g.hd k).ownBlock = some b → ¬ g.I b := fun b hb => by rw [hob b hb]; exact m.notI hk0 (hlive b hb)
  have hkeepI : ∀ b, g.I b → w'.heap[b]? = w.heap[b]? := fun b hb => hgr.block b (m.ilt b hb) fun e => hnI b e.symm hb
  have hFR := hF.keep (w' := w') (fun b hb => hkeepI b (hI b hb)) hgr.size
  have hIb : ∀ b, v'.ownBlock = some b → ¬ (g.I b ∨ liveA g [] b) := fun b hb h => by
    rcases h with h | ⟨j, hj, _⟩
    · rcases hblk b hb with h1 | h1
      · exact hnI b h1 h
      · have := m.ilt b h; omega
    · cases hj
  obtain ⟨g', q1, q2, q3, q4, q5, q6, q7⟩ := arr_new (w' := w') m hk' hki (js := js) (fz := []) (fun _ h => by cases h) hjs (T := E) (e := e) (xs := zs) (d := d) (blk := (v'.ownBlock).getD 0) (v := v') (fp := b3)
    hgr.os hgr.tape hgr.output hgr.size (fun b hb hn => hgr.block b hb fun e => hn k hkj (by simp) (hlive b e.symm) (hob b e.symm))
    (ArrR.lay hrow hFR (fun b hb => .inl (hI b hb)) (fun b hb => ⟨by rw [hb]; rfl, hIb b hb⟩))
    (fun hv => by
      rcases hrow.2 with ⟨h1, _⟩ | ⟨b, cap, cur, h1, _, h3, _⟩
      · exact absurd h1 hv
      · have hb : v'.ownBlock = some b := by rw [h1]; rfl
        rw [hb]
        refine ⟨(Array.getElem?_eq_some_iff.1 h3).1, ?_⟩
        rcases hblk b hb with h | h
        · exact .inr ⟨k, hkj, by simp, hlive b h, hob b h⟩
        · exact .inl h)
    (fun hdd => ⟨(hd hdd).1, fun b hb => ⟨.inl (hI b hb), by
      obtain ⟨j, hj, hv⟩ := (hd hdd).2 b hb
      obtain ⟨c, t, h⟩ := hv.cells m
      exact ⟨c, t, by rw [hkeepI b (hI b hb)]; exact h⟩, (hd hdd).2 b hb⟩⟩)
  exact ⟨g', q2, q3, q4⟩
end
/-- Only the last-made array is left. -/
theorem MemR.last {g : Gh} {l : Locs} {w : World} {k : Nat} {b : Blk} (m : MemR g ((k, some b) :: l) w) : MemR g [(k, some b)] w := by
  have hlk : ∀ j c, lkl [(k, some b)] j = some c → lkl ((k, some b) :: l) j = some c := fun j c hc => by
    by_cases h : k = j
    · subst h; rw [lkl_cons_self] at hc ⊢; exact hc
    · rw [lkl_cons_ne h] at hc; cases hc
  refine ⟨m.ilt, fun j cs hc => ?_, fun j β T e2 ys2 d hc => m.arr j _ _ _ _ _ (hlk _ _ hc), fun i j b1 b2 hij h1 h2 => m.dis i j _ _ hij (hlk _ _ h1) (hlk _ _ h2), fun j β T e2 ys2 hc => m.fr j _ _ _ _ (hlk _ _ hc), fun i j β γ T U e2 e3 y2 z2 hij h1 h2 => m.fd i j _ _ _ _ _ _ _ _ hij (hlk _ _ h1) (hlk _ _ h2)⟩
  obtain ⟨vs, t, h1, h2, h3⟩ := m.box j cs (hlk _ _ hc)
  refine ⟨vs, t, h1, h2.mono fun a c hcm hr => ?_, h3⟩
  exact CellR.step (fun _ _ => rfl) (fun _ h => h) (Nat.le_refl _) (fun i _ => ⟨fun cs' h => ⟨rfl, cs', hlk _ _ h⟩, fun β T e2 xs d h => ⟨β, T, e2, xs, d, hlk _ _ h, rfl, rfl, rfl⟩⟩) hr
theorem Step.last {g g' : Gh} {l0 l : Locs} {w w' : World} {k : Nat} {b : Blk} (h : Step [] g l0 w g' ((k, some b) :: l) w') : Step [] g l0 w g' [(k, some b)] w' :=
  ⟨h.os, h.tape, h.output, h.size, h.keep, h.imm, h.imm', (fun c hc => by
    obtain ⟨j, blk, h1, h2⟩ := hc
    refine h.own c ⟨j, blk, ?_, h2⟩
    by_cases e : k = j
    · subst e; rw [lkl_cons_self] at h1 ⊢; exact h1
    · rw [lkl_cons_ne e] at h1; exact absurd h1 (by simp [lkl, lk])), fun k hk => by cases hk⟩
/-- .. of two rows: the second lies apart. -/
theorem AT.row2 {P : Program} {fid : FuncId} {rest : List AVal} {α : Type} {e : Enc α} {f : α → List Cell} [hc : CellsOf e f] {E : TypeId} {xs zs ys : List α} {d : Bool} (hfn : Callable P fid)
    (h : ∀ (w : World) (v u : Value) (vs : List Value) (cells news : List Value) (bs b2 : List Nat), All2 (fun v x => x = AVal.one (.c v)) vs rest → w.ownsRow 0 E e.size v xs.length cells → w.ownsRow 0 E e.size u zs.length news → FR w cells (xs.flatMap f) bs → FR w news (zs.flatMap f) b2 → (∀ u ∈ cells ++ news, u.oneCell' = true) →
      (∀ b, u.ownBlock = some b → v.ownBlock ≠ some b) →
      Calls P fid ((v :: vs) ++ [u]).toArray w fun en w' => ∃ v' cells', en = .returned v' ∧ w'.ownsRow 0 E e.size v' ys.length cells' ∧ w.grownBy w' v.ownBlock ∧ (∀ b, v'.ownBlock = some b → v.ownBlock = some b ∨ w.heap.size ≤ b) ∧
        ∃ bs', FR w cells' (ys.flatMap f) bs' ∧ ((bs ++ b2).Nodup → bs'.Nodup) ∧ ∀ b ∈ bs', b ∈ bs ++ b2)
    (hrest : ∀ x ∈ rest, ∃ v, x = AVal.one (.c v)) :
    AT P fid ((.one (.own 0) :: rest) ++ [.one (.own 2)]) [(0, some (.arr E e xs d)), (2, some (.arr E e zs d))] (.one (.own 1)) [(1, some (.arr E e ys d))] := by
  refine ⟨hfn, fun g w cargs m ha => ?_⟩
  have hk : lkl [(0, some (Blk.arr E e xs d)), (2, some (Blk.arr E e zs d))] 0 = some (.arr E e xs d) := rfl
  have hk2 : lkl [(0, some (Blk.arr E e xs d)), (2, some (Blk.arr E e zs d))] 2 = some (.arr E e zs d) := rfl
  obtain ⟨cells, bs, r1, f1, i1, F1, ob1⟩ := (m.arr 0 _ _ _ _ _ hk).row
  obtain ⟨news, b2, r2, f2, i2, F2, ob2⟩ := (m.arr 2 _ _ _ _ _ hk2).row
  have : ∃ v vs u, cargs = ((v :: vs) ++ [u]).toArray ∧ All2 (VR1 g [(0, some (Blk.arr E e xs d)), (2, some (Blk.arr E e zs d))] w) vs rest ∧ v = g.hd 0 ∧ u = g.hd 2 := by
    obtain ⟨l1, l2, h1, h2, h3⟩ := All2.split ha
    cases l1 with
    | nil => exact h2.elim
    | cons v vs =>
      cases l2 with
      | nil => exact h3.elim
      | cons u us =>
        cases us with
        | cons _ _ => exact h3.2.elim
        | nil => exact ⟨v, vs, u, by have q := congrArg List.toArray h1; simpa using q, h2.2, h2.1 _ _ _ _ _ hk, h3.1 _ _ _ _ _ hk2⟩
  obtain ⟨v, vs, u, rfl, ha2, rfl, rfl⟩ := this
  have hvs : All2 (fun v x => x = AVal.one (.c v)) vs rest := ha2.mono fun a x hx hr => by
    obtain ⟨y, rfl⟩ := hrest x hx
    have := (hr : CellR g _ w a (.c y)).1
    rw [this]
  have hlive : ∀ k b, (g.hd k).ownBlock = some b → g.hd k ≠ .slice none 0 0 := fun k b hb e => by rw [e] at hb; cases hb
  refine (h w _ _ vs cells news bs b2 hvs r1 r2 f1 f2 (fun u hu => (List.mem_append.1 hu).elim (FR.one f1 u) (FR.one f2 u)) (fun b hb e0 => ?_)).mono ?_
  · have q1 := ob1 b e0
    have q2 := ob2 b hb
    exact m.dis 0 2 _ _ (by decide) hk hk2 (hlive 0 b e0) (hlive 2 b hb) (q1.symm.trans q2)
  · rintro en w' ⟨v', cells', rfl, t1, t2, t3, bs', t4, t5, t6⟩
    obtain ⟨g', s1, s2, s3⟩ := row_lay (w' := w') m (k := 0) (k' := 1) rfl (by simp [Locs.ids]) (js := [0, 2]) (by simp) (fun j hj => by
        simp at hj
        rcases hj with rfl | rfl
        · exact ⟨α, E, e, xs, d, hk⟩
        · exact ⟨α, E, e, zs, d, hk2⟩) (zs := ys) (d := d) t4 (fun b hb => (List.mem_append.1 (t6 b hb)).elim (i1 b) (i2 b)) ob1 t1 t2 t3 (fun hd => by
      subst hd
      have v1 : ∀ b ∈ bs, Via g _ 0 b := fun b hb => ⟨α, E, e, xs, hk, .inr (by rw [F1 rfl]; exact hb)⟩
      have v2 : ∀ b ∈ b2, Via g _ 2 b := fun b hb => ⟨α, E, e, zs, hk2, .inr (by rw [F2 rfl]; exact hb)⟩
      refine ⟨t5 (List.nodup_append.2 ⟨by rw [← F1 rfl]; exact (m.fr 0 _ _ _ _ hk).1, by rw [← F2 rfl]; exact (m.fr 2 _ _ _ _ hk2).1, fun x hx y hy exy => ?_⟩), fun b hb => ?_⟩
      · subst exy
        have := (v1 x hx).disj m (v2 x hy)
        cases this
      · rcases List.mem_append.1 (t6 b hb) with hb | hb
        · exact ⟨0, by simp, v1 b hb⟩
        · exact ⟨2, by simp, v2 b hb⟩)
    exact ⟨v', g', rfl, s2.last, fun β U e2 ys2 dd hcx => s1.symm, (s3 []).last⟩
/-- .. under numbers of the caller's. -/
theorem AT.lend2 {P : Program} {f : FuncId} {rest : List AVal} {α : Type} {T : TypeId} {e : Enc α} {xs zs ys : List α} {d : Bool}
    (h : AT P f ((.one (.own 0) :: rest) ++ [.one (.own 2)]) [(0, some (.arr T e xs d)), (2, some (.arr T e zs d))] (.one (.own 1)) [(1, some (.arr T e ys d))]) (a b c : Nat) (hac : Nat.beq a c = false) (hbc : Nat.beq b c = false) (hab : Nat.beq a b = false) (hrest : ∀ r, rest.map (AVal.ren1 r) = rest) :
    AC P f ((.one (.own a) :: rest) ++ [.one (.own b)]) [(a, some (.arr T e xs d)), (b, some (.arr T e zs d))] (.one (.own c)) [(a, none), (b, none), (c, some (.arr T e ys d))] := by
  have key : ∀ {p q : Nat}, Nat.beq p q = false → Nat.beq q p = false := fun {p q} h => by
    cases e : Nat.beq q p
    · rfl
    · have h1 := Nat.eq_of_beq_eq_true e
      subst h1
      rw [Nat.beq_refl] at h; cases h
  have hcc : Nat.beq c c = true := Nat.beq_refl c
  have haa : Nat.beq a a = true := Nat.beq_refl a
  have hca := key hac
  have hcb := key hbc
  have hba := key hab
  let r1 : Nat → Nat := fun k => bif Nat.beq k 0 then a else b
  let s1 : Nat → Nat := fun k => bif Nat.beq k c then 1 else bif Nat.beq k a then 0 else 2
  have z20 : Nat.beq 2 0 = false := rfl
  have z10 : Nat.beq 1 0 = false := rfl
  have z12 : Nat.beq 1 2 = false := rfl
  have sc : s1 c = 1 := by show (bif Nat.beq c c then 1 else _) = 1; rw [hcc]; rfl
  have sa : s1 a = 0 := by show (bif Nat.beq a c then 1 else bif Nat.beq a a then 0 else 2) = 0; rw [hac, haa]; rfl
  have sb : s1 b = 2 := by show (bif Nat.beq b c then 1 else bif Nat.beq b a then 0 else 2) = 2; rw [hbc, hba]; rfl
  have := AT.lend (P := P) (f := f) (args := (.one (.own 0) :: rest) ++ [.one (.own 2)]) (res' := .one (.own c)) (l := [(a, some (.arr T e xs d)), (b, some (.arr T e zs d))]) (l' := [(a, none), (b, none), (c, some (.arr T e ys d))]) r1 s1 (L := [(0, some (.arr T e xs d)), (2, some (.arr T e zs d))]) (L' := [(1, some (.arr T e ys d))])
    (by show AT P f _ _ (.one (.own (s1 c))) _; rw [sc]; exact h)
    ⟨⟨.arr T e xs d, by show lkl _ a = _; rw [lkl_cons_self], BLe.rf⟩, ⟨.arr T e zs d, by show lkl _ b = _; rw [lkl_cons_ne (fun q => by subst q; rw [haa] at hab; cases hab), lkl_cons_self], BLe.rf⟩, trivial⟩ (by simp [injL, keys, r1, hba, z20])
    ⟨⟨_, by rw [sc]; rfl, BLe.rf⟩, trivial⟩ (by
      simp [injL, keys, sa, sb, sc, z20, z10, z12]) (fun k hk => by
      simp [keys] at hk
      rcases hk with rfl | rfl
      · rw [lk_cons_self]
      · rw [lk_cons_ne (fun q => by subst q; rw [haa] at hab; cases hab), lk_cons_self]) (fun k cs hc => by
        by_cases q : a = k
        · subst q; rw [lkl_cons_self] at hc; cases hc
        · rw [lkl_cons_ne q] at hc
          by_cases q : b = k
          · subst q; rw [lkl_cons_self] at hc; cases hc
          · rw [lkl_cons_ne q] at hc; cases hc)
  rw [List.map_append, List.map_cons, hrest] at this
  exact this
/-! ### Elements of some cells, copied and cleared -/
theorem run_copy_rowK {P : Program} (w : World) (dT sT ty elem : TypeId) (k g o dLen dCap : Nat) (a : Addr) (sLen sCap : Nat) (cur : Array Value) (t : TypeId) (cs : List Value)
    (hu : P.underlying dT = some (.slice elem)) (hs : (P.info? elem).map (·.size) = some k)
    (hg : w.heap[g]? = some (.cells cur t (0, 0))) (hn : cs.length = Nat.min sLen dLen * k)
    (hsrc : ∀ j v, cs[j]? = some v → w.cell? (a.add j) = some v) (hfit : o + cs.length ≤ cur.size) (h1 : ∀ v ∈ cs, v.oneCell' = true) :
    (Builtin.copy_ #[dT, sT] ty #[.slice (some ⟨g, o, none⟩) dLen dCap, .slice (some a) sLen sCap]).run P w =
      .ok (goInt (Nat.min sLen dLen)) (w.setRow g (cur.toList.take o ++ cs ++ cur.toList.drop (o + cs.length)).toArray) := by
  have hl := run_loadCells_list (P := P) w a cs hsrc
  have hst := run_storeCells_at P g o t cs 0 cur w hg (by simpa using hfit) h1
  cases hq : P.info? elem with
  | none => simp [hq] at hs
  | some i =>
    have hi : i.size = k := by simpa [hq] using hs
    simp [Builtin.copy_, run_underlying hu, Builtin.lenOf, Builtin.firstCells, sizeOf, typeInfo, hq, hi, ← hn, hl, hst]
theorem insRow {A C N : List Value} {x y z : Nat} (hx : x ≤ C.length) (hy : y = x + N.length) (hz : z = C.length + N.length) (hA : A.take C.length = C) (hlen : z ≤ A.length) :
    ((A.take y ++ C.drop x ++ A.drop z).take x ++ N ++ (A.take y ++ C.drop x ++ A.drop z).drop (x + N.length)) = C.take x ++ N ++ C.drop x ++ A.drop z := by
  subst hy; subst hz
  have e1 : (A.take (x + N.length) ++ C.drop x ++ A.drop (C.length + N.length)).take x = C.take x := by
    have e0 : C.take x = A.take x := by
      conv => lhs; rw [← hA]
      rw [List.take_take, Nat.min_eq_left hx]
    rw [List.append_assoc, List.take_append_of_le_length (by simp; omega), List.take_take, Nat.min_eq_left (by omega), e0]
  have e2 : (A.take (x + N.length) ++ C.drop x ++ A.drop (C.length + N.length)).drop (x + N.length) = C.drop x ++ A.drop (C.length + N.length) := by
    rw [List.append_assoc, List.drop_left' (by simp; omega)]
  rw [e1, e2, List.append_assoc, List.append_assoc, List.append_assoc]
theorem FR.flatLen {α : Type} {e : Enc α} {f : α → List Cell} [hc : CellsOf e f] {w : World} : ∀ {xs : List α} {vs : List Value} {b : List Nat}, FR w vs (xs.flatMap f) b → vs.length = xs.length * e.size
  | [], [], b, h => by simp
  | [], _ :: _, b, h => h.elim
  | x :: xs, vs, b, h => by
    rw [List.flatMap_cons] at h
    obtain ⟨v1, v2, b1, b2, rfl, rfl, h1, h2⟩ := FR.app.1 h
    have l1 := e.len (hc.iff.2 h1)
    have l2 := FR.flatLen (e := e) h2
    rw [List.length_append, l1, l2, List.length_cons, Nat.add_mul]; omega
theorem FR.parts {α : Type} {e : Enc α} {f : α → List Cell} [hc : CellsOf e f] {w : World} {xs : List α} {cells : List Value} {bs : List Nat} (h : FR w cells (xs.flatMap f) bs) {i : Nat} (hi : i ≤ xs.length) :
    ∃ b1 b3, bs = b1 ++ b3 ∧ FR w (cells.take (i * e.size)) ((xs.take i).flatMap f) b1 ∧ FR w (cells.drop (i * e.size)) ((xs.drop i).flatMap f) b3 := by
  have e0 : xs.flatMap f = (xs.take i).flatMap f ++ (xs.drop i).flatMap f := by rw [← List.flatMap_append, List.take_append_drop]
  rw [e0] at h
  obtain ⟨v1, v2, b1, b3, rfl, rfl, h1, h2⟩ := FR.app.1 h
  have l1 := FR.flatLen (e := e) h1
  rw [List.length_take, Nat.min_eq_left hi] at l1
  exact ⟨b1, b3, rfl, by rw [List.take_left' l1]; exact h1, by rw [List.drop_left' l1]; exact h2⟩
theorem FR.ins {α : Type} {e : Enc α} {f : α → List Cell} [hc : CellsOf e f] {w : World} {xs zs : List α} {cells news : List Value} {bs b2 : List Nat} (h : FR w cells (xs.flatMap f) bs) (h2 : FR w news (zs.flatMap f) b2) {i : Nat} (hi : i ≤ xs.length) :
    ∃ bs', FR w (cells.take (i * e.size) ++ news ++ cells.drop (i * e.size)) ((xs.take i ++ zs ++ xs.drop i).flatMap f) bs' ∧ ((bs ++ b2).Nodup → bs'.Nodup) ∧ ∀ b ∈ bs', b ∈ bs ++ b2 := by
  obtain ⟨b1, b3, rfl, q1, q3⟩ := FR.parts (e := e) h hi
  refine ⟨b1 ++ b2 ++ b3, ?_, fun hn => ?_, fun b hb => ?_⟩
  · rw [List.flatMap_append, List.flatMap_append]
    exact FR.app.2 ⟨_, _, _, _, rfl, rfl, FR.app.2 ⟨_, _, _, _, rfl, rfl, q1, h2⟩, q3⟩
  · have hp : (b1 ++ b3 ++ b2).Perm (b1 ++ b2 ++ b3) := by
      rw [List.append_assoc, List.append_assoc]
      exact List.Perm.append_left b1 List.perm_append_comm
    exact hp.nodup_iff.1 hn
  · simp only [List.mem_append] at hb ⊢
    rcases hb with (hb | hb) | hb <;> simp [hb]
end Go.Proofs.Ytfdpigafekohgaa

/- Results that nobody writes any more; arrays whose elements are shared; appending and clearing in regions. -/
namespace Go.Proofs.Ytfdpigafekohgaa
open Go.RowKit
set_option linter.unusedVariables false

/-! ### An array's elements are no longer its own alone -/
section
variable {g : Gh} {l : Locs} {w : World}
theorem shallow_mem (m : MemR g l w) {k : Nat} {α : Type} {T : TypeId} {e : Enc α} {xs : List α} {dp : Bool} (hk : lkl l k = some (.arr T e xs dp)) :
    MemR g ((k, some (.arr T e xs false)) :: l) w ∧ (∀ K, Step K g l w g ((k, some (.arr T e xs false)) :: l) w) ∧ ∀ j, okK g l g ((k, some (.arr T e xs false)) :: l) j := by
  have ok : ∀ j, okK g l g ((k, some (.arr T e xs false)) :: l) j := fun j => by
    by_cases q : k = j
    · subst q
      exact ⟨fun cs h => (by rw [lkl_cons_self] at h; cases h), fun β U e2 ys d h => by rw [lkl_cons_self] at h; cases h; exact ⟨_, _, _, _, _, hk, rfl, rfl, rfl⟩⟩
    · exact okK.same (lkl_cons_ne q) rfl rfl
  have back : ∀ j b, lkl ((k, some (Blk.arr T e xs false)) :: l) j = some b → ∃ b', lkl l j = some b' ∧ (liv g j b ↔ liv g j b') ∧ (∀ (β : Type) (U : TypeId) (e2 : Enc β) (ys : List β), b = .arr U e2 ys true → b' = .arr U e2 ys true) := fun j b h => by
    by_cases q : k = j
    · subst q
      rw [lkl_cons_self] at h; cases h
      exact ⟨_, hk, Iff.rfl, fun β U e2 ys h => by cases h⟩
    · rw [lkl_cons_ne q] at h
      exact ⟨b, h, Iff.rfl, fun _ _ _ _ h => h⟩
  refine ⟨⟨m.ilt, fun j cs h => ?_, fun j β U e2 ys d h => ?_, fun i j b b' hij h1 h2 l1 l2 => ?_, fun j β U e2 ys h => ?_, fun i j β γ U V e2 e3 ys zs hij h1 h2 => ?_⟩, fun K => ⟨rfl, rfl, rfl, Nat.le_refl _, fun _ _ _ => rfl, fun _ h => h, fun _ h => .inl h, fun b hb => ?_, fun j hj hn => ⟨?_, ok j, fun cs hc => ?_⟩⟩, ok⟩
  · by_cases q : k = j
    · subst q; rw [lkl_cons_self] at h; cases h
    · rw [lkl_cons_ne q] at h
      obtain ⟨vs, t, h1, h2, h3⟩ := m.box j cs h
      exact ⟨vs, t, h1, h2.mono fun a c _ hr => CellR.step (fun _ _ => rfl) (fun _ h => h) (Nat.le_refl _) (fun i _ => ok i) hr, h3⟩
  · by_cases q : k = j
    · subst q
      rw [lkl_cons_self] at h; cases h
      rcases m.arr k _ _ _ _ _ hk with ⟨h1, h2, _⟩ | ⟨cap, vs, bss, h1, h2, h3, h4, h5, h6, h7, h8, _⟩
      · exact .inl ⟨h1, h2, fun h => by cases h⟩
      · exact .inr ⟨cap, vs, bss, h1, h2, h3, h4, h5, h6, h7, h8, fun h => by cases h⟩
    · rw [lkl_cons_ne q] at h
      exact m.arr j _ _ _ _ _ h
  · obtain ⟨c, q1, q2, _⟩ := back i b h1
    obtain ⟨c', q3, q4, _⟩ := back j b' h2
    exact m.dis i j _ _ hij q1 q3 (q2.1 l1) (q4.1 l2)
  · obtain ⟨c, q1, _, q3⟩ := back j _ h
    rw [q3 _ _ _ _ rfl] at q1
    exact m.fr j _ _ _ _ q1
  · obtain ⟨c, q1, _, q3⟩ := back i _ h1
    obtain ⟨c', q4, _, q6⟩ := back j _ h2
    rw [q3 _ _ _ _ rfl] at q1
    rw [q6 _ _ _ _ rfl] at q4
    exact m.fd i j _ _ _ _ _ _ _ _ hij q1 q4
  · obtain ⟨j, blk, h1, h2⟩ := hb
    obtain ⟨c, q1, q2, q3⟩ := back j blk h1
    rcases h2 with ⟨h2, h3⟩ | ⟨β, U, e2, ys, h2, h3⟩
    · exact .inl ⟨j, c, q1, .inl ⟨q2.1 h2, h3⟩⟩
    · exact .inl ⟨j, c, q1, .inr ⟨β, U, e2, ys, q3 _ _ _ _ h2, h3⟩⟩
  · by_cases q : k = j
    · subst q; rw [lk_cons_self]; simp
    · rw [lk_cons_ne q]; exact hn
  · by_cases q : k = j
    · subst q; rw [hk] at hc; cases hc
    · exact ⟨cs, by rw [lkl_cons_ne q]; exact hc⟩
variable {P : Program} {N : Nat} {K : List Nat} {Kn : St → Prop} {Q : Exit → St → Prop} {s : St}
theorem AW_shallow {α : Type} {T : TypeId} {e : Enc α} {xs : List α} {dp : Bool} {c : Code} (k : Nat) (hk : lkl s.l k = some (.arr T e xs dp))
    (h : AW P N K c Kn Q ⟨s.t, (k, some (.arr T e xs false)) :: s.l⟩) : AW P N K c Kn Q s := fun g a w r => by
  obtain ⟨m1, st1, ok1⟩ := shallow_mem r.mem hk
  have r1 := r.next0 (g' := g) (l' := (k, some (.arr T e xs false)) :: s.l) (w' := w) (fun _ _ => rfl) (fun _ h => h) (Nat.le_refl _) (fun j _ => ok1 j) m1
  exact Go.wp_mono (h g a w r1) fun e a1 w1 h1 => h1.trans r.mem m1 (st1 K)
end

/-! ### A result that is given up to be read alone -/
section
variable {g g' : Gh} {w : World} {α : Type} {T : TypeId} {e : Enc α} {xs : List α} {d : Bool}
end
/-! ### append and clear, where their runs are known by equations -/
end Go.Proofs.Ytfdpigafekohgaa

/- Rules for the draws' contracts: a cursor that is lent while an array is left, two results in variables. -/
namespace Go.Proofs.Ytfdpigafekohgaa
open Go.RowKit
set_option linter.unusedVariables false

def rnC (j : Nat) : Nat := bif Nat.beq j 200 then 200 else 0
theorem rnC_k {k : Nat} (hk : Nat.beq k 200 = false) : rnC k = 0 := by unfold rnC; rw [hk]; rfl
theorem curB_ren (b : List Int) (c : Cur) (r : Nat → Nat) : (curB b c).ren r = curB b c := rfl
/-- The array that is left beside a cursor, under another number. -/
theorem AC.cur {P : Program} {f : FuncId} {args : List AVal} {bs : List Int} {c c' : Cur} {res res0 : AVal} {blk : Blk} (h : AC P f args [(200, some (curB bs c))] res0 [(200, some (curB bs c')), (0, some blk)]) (k : Nat) (hk : Nat.beq k 200 = false)
    (hres : ∀ r : Nat → Nat, r k = 0 → res.ren r = res0) (hbl : ∀ r : Nat → Nat, blk.ren r = blk) : AC P f args [(200, some (curB bs c))] res [(200, some (curB bs c')), (k, some blk)] := by
  have hL : LeL rnC [(200, some (curB bs c')), (0, some blk)] [(200, some (curB bs c')), (k, some blk)] :=
    ⟨⟨curB bs c', rfl, by rw [curB_ren]; exact BLe.rf⟩, ⟨blk, by rw [rnC_k hk]; rfl, by rw [hbl]; exact BLe.rf⟩, trivial⟩
  have hi : injL rnC (keys [(200, some (curB bs c')), (k, some blk)]) = true := by
    have h2 : rnC 200 = 200 := rfl
    simp [injL, keys, rnC_k hk, h2]
    exact .inr rfl
  have hK : LeK rnC [(200, some (curB bs c')), (0, some blk)] [(200, some (curB bs c')), (k, some blk)] (keys [(200, some (curB bs c))]) :=
    ⟨⟨rfl, .inl (by simp [lk]), fun cs _ => ⟨_, rfl⟩⟩, trivial⟩
  refine ⟨h.fn, fun g w cargs m ha => (h.run g w cargs m ha).mono ?_⟩
  rintro e w' ⟨v, g1, rfl, m1, hv, hs⟩
  exact ⟨v, g1.ren rnC, rfl, m1.unren hL hi, VR.unren hL (by rw [hres rnC (rnC_k hk)]; exact hv), hs.trans m m1 (Step.unren hL hK)⟩
/-- What a slot holds, said in other words. -/
theorem AW_slot {P : Program} {N : Nat} {K : List Nat} {c : Code} {Kn : St → Prop} {Q : Exit → St → Prop} {s : St} {t : Nat} {x y : AVal} (ht : lk s.t t = some x) (h : x = y) (hA : AW P N K c Kn Q ⟨(t, y) :: s.t, s.l⟩) : AW P N K c Kn Q s := fun g a w r =>
  hA g a w ⟨r.size, r.defers, fun k z hk => by
    by_cases e : t = k
    · subst e; rw [lk_cons_self] at hk; cases hk; exact r.tmp _ _ (h ▸ ht)
    · rw [lk_cons_ne e] at hk; exact r.tmp k z hk, r.mem⟩
theorem x_assign_any {P : Program} {N d : Nat} {s : St} {ty : TypeId} {pos : String} {after : Array Edge} {gd : Option (Nat × Bool)} {v : Value} (hN : Nat.blt d N = true) :
    Stp P N ⟨some d, .assign (.const v), ty, pos, after, gd⟩ s ⟨(d, .one .any) :: s.t, s.l⟩ ⟨[], [], [(d, .one .any)], [], []⟩ :=
  ⟨OpOK.pure rfl (blt_lt hN) fun g s a w ht hl r => ⟨a.eval (.const v), by simp [execOp], trivial⟩, ⟨by simp, by simp, by simp⟩, rfl⟩
section results
variable {P : Program} {f : FuncId} {fn : Func} {c : Code} {N : Nat} {args : List AVal} {L L' : Locs}
end results
theorem rem_wf {m n : Int} (h0 : 0 ≤ m) (h1 : m ≤ 4294967295) (hn : 0 < n) : (Lit.int .i64 (m.tmod n)).wf = true := by
  rw [Int.tmod_eq_emod_of_nonneg h0]
  have h2 := Int.emod_nonneg m (show n ≠ 0 by omega)
  have h3 : m % n ≤ m := by
    by_cases h : m < n
    · rw [Int.emod_eq_of_lt h0 h]; exact Int.le_refl _
    · have := Int.emod_lt_of_pos m hn; omega
  exact WalkArith.wf_i64 (by omega)
theorem mul_in {m n : Int} (h : 0 ≤ m ∧ m < 65536) (h2 : 0 ≤ n ∧ n < 65536) : -9223372036854775808 ≤ m * n ∧ m * n ≤ 9223372036854775807 := by
  have a1 := Int.mul_nonneg h.1 h2.1
  have a2 : m * n ≤ 65536 * 65536 := Int.mul_le_mul (by omega) (by omega) h2.1 (by decide)
  omega
theorem pow_step {k : Nat} (h : k < 6) : IntKind.i64.wrap ((256 : Int) ^ k * 256) = (256 : Int) ^ (k + 1) := by
  have := pow_256 (m := k + 1) (by omega)
  rw [← Int.pow_succ]
  exact IntWalk.i64_in _ (by omega)
end Go.Proofs.Ytfdpigafekohgaa

/- Numbers copied into a part of an own array; nil ars an array that is taken; numbers in memory are not too great. -/
namespace Go.Proofs.Ytfdpigafekohgaa
open Go.RowKit
set_option linter.unusedVariables false
set_option linter.unusedSimpArgs false

section ops
variable {P : Program} {N : Nat} {s : St} {d : Nat} {ty : TypeId} {pos : String} {after : Array Edge} {gd : Option (Nat × Bool)}
end ops
/-- A contract that takes an array takes nil, too. -/
theorem AT.nil {P : Program} {f : FuncId} {rest : List AVal} {α β : Type} {T U : TypeId} {e : Enc α} {e' : Enc β} {ys : List β} {d' : Bool}
    (h : AT P f (.one (.own 0) :: rest) [(0, some (.arr T e [] true))] (.one (.own 1)) [(1, some (.arr U e' ys d'))]) (hrest : rest.flatMap AVal.ids1 = []) (c : Nat) :
    AC P f (.one (.c (.slice none 0 0)) :: rest) [] (.one (.own c)) [(c, some (.arr U e' ys d'))] := by
  refine ⟨h.fn, fun g w cargs m ha => ?_⟩
  obtain ⟨g', q1, q2, q3, q4, q5⟩ := nil_new m (k := 0) rfl (by simp [Locs.ids]) α T e
  have ha' : All2 (VR1 g' [(0, some (.arr (α := α) T e [] true))] w) cargs.toList (.one (.own 0) :: rest) := by
    generalize cargs.toList = vs at ha
    cases vs with
    | nil => exact ha
    | cons v vs =>
      refine ⟨fun β U e2 ys dd hc => by rw [q1]; exact ha.1.1, ha.2.mono fun a b hb hr => VR1.step (fun _ _ => rfl) q4 (Nat.le_refl _) (fun k hk => ?_) hr⟩
      have : k ∈ rest.flatMap AVal.ids1 := List.mem_flatMap.2 ⟨b, hb, hk⟩
      rw [hrest] at this; cases this
  refine (h.run g' w cargs q2 ha').mono ?_
  rintro r w' ⟨v, g1, rfl, m1, hv, hs⟩
  have hle : LeL (fun _ => 1) [(1, some (.arr U e' ys d'))] [(c, some (.arr U e' ys d'))] := ⟨⟨_, rfl, BLe.rf⟩, trivial⟩
  have T1 := ((q3 []).trans m q2 hs).trans m m1 (Step.unren hle trivial)
  exact ⟨v, g1.ren _, rfl, m1.unren hle (by simp [injL, keys]), VR.unren (x := .one (.own c)) hle hv, T1⟩
end Go.Proofs.Ytfdpigafekohgaa

/- Smaller numbers of two; pointers that are not nil; bytes in memory are bytes. -/
namespace Go.Proofs.Ytfdpigafekohgaa
open Go.RowKit
set_option linter.unusedVariables false
section ops
variable {P : Program} {N : Nat} {s : St} {d : Nat} {ty : TypeId} {pos : String} {after : Array Edge} {gd : Option (Nat × Bool)}
theorem x_nilc {x : Operand} {k off : Nat} {cs : List Cell} (hN : Nat.blt d N = true) (h : evo s.t x = some (.one (.ptr k off))) (hk : lkl s.l k = some (.box cs)) :
    Stp P N ⟨some d, .nilCheck x, ty, pos, after, gd⟩ s ⟨(d, .one (.ptr k off)) :: s.t, s.l⟩ ⟨rdo x (.one (.ptr k off)), [(k, .box cs)], [(d, .one (.ptr k off))], [], []⟩ :=
  Stp.pure rfl hN (rdo_of h) (by simpa using hk) fun g s' a w ht hl' r => by
    have hk' : lkl s'.l k = some (.box cs) := hl' (k, .box cs) (by simp)
    have hv : a.eval x = .pointer (some ⟨g.ρ k, off, none⟩) := (eval_ok r (evs_of h) ht : CellR g s'.l w _ (.ptr k off)) cs hk'
    exact ⟨_, by simp only [execOp, hv, Sem.run_pure], fun cs' hc => rfl⟩
end ops
theorem byte_wf {x : Int} (h : (Lit.int .u8 x).wf = true) : 0 ≤ x ∧ x ≤ 255 := by
  simp only [Lit.wf, Bool.and_eq_true, decide_eq_true_eq] at h
  exact h
theorem SliceRep.bytes {w : World} {a : Option Addr} {n cap : Nat} {xs : List Int} {bs : List Nat} (h : SliceRep (intE .u8) w a n cap xs bs) : ∀ x ∈ xs, 0 ≤ x ∧ x ≤ 255 := fun x hx => by
  obtain ⟨j, hj, rfl⟩ := List.getElem_of_mem hx
  obtain ⟨gb, o, cs, b, _, f1, _⟩ := h.get hj
  exact byte_wf f1.2.1
end Go.Proofs.Ytfdpigafekohgaa

/- Draws (printed by walk.py) -/
namespace Go.Proofs.Ytfdpigafekohgaa
open Go.RowKit
set_option linter.unusedVariables false
set_option linter.unusedSimpArgs false
set_option maxRecDepth 100000

set_option maxHeartbeats 4000000 in
theorem new_c (b : List Int) (hb : b.length ≤ 1048576) : AC Try.prog 58 [.one (.sl (intE .u8) b)] [] (.one (.ptr 200 0)) [(200, some (curB b (dNew b)))] := by
  refine AC_body1 Try.func58 rfl rfl Try.ntmps58 rfl Try.results58 ?_
  refine AW_seq ?_
  refine AW_region ?_
  refine AL_p (x_assign_any rfl) ?_
  refine AL_nil ?_
  refine AW_seq ?_
  refine AW_region ?_
  refine AL_p (x_move rfl rfl) ?_
  refine AL_p (x_len (E := 5) (n := 1) rfl rfl (by kernel_rfl)) ?_
  refine AL_p (x_add rfl rfl rfl (r := w64 (391785 + (b.length : Int))) rfl) ?_
  refine AL_p (x_assign rfl rfl) ?_
  refine AL_nil ?_
  refine AW_seq ?_
  refine AW_seq ?_
  refine AW_region ?_
  refine AL_p (x_assign rfl rfl) ?_
  refine AL_nil ?_
  refine AW_block ?_
  refine AW_loop2 (ι := {q : Nat // q ≤ min b.length 4000}) (fun p => [(3, .one (.c (.int .i64 (hashTo b (p.1))))), (4, .one (.c (.int .i64 (((p.1) : Int)))))]) (fun p => []) [0] [] (fun p => 4000 - (p.1)) ⟨0, by omega⟩ (rn []) ?_ ?_
  exact ⟨by (repeat refine ⟨⟨_, rfl, by first | exact VLe.rf | exact vle_int (by dsimp only; omega)⟩, ?_⟩); exact trivial, by (repeat refine ⟨⟨_, rfl, by first | exact BLe.rf | exact BLe.box AllC.rf | exact BLe.arr (by exact rfl)⟩, ?_⟩); exact trivial, by repeat (first | exact trivial | refine ⟨⟨rfl, by first | (left; intro h; cases h) | (right; rfl), by first | exact (fun _ h => ⟨_, h⟩) | exact (fun _ _ => ⟨_, rfl⟩) | (intro _ h; cases h)⟩, ?_⟩), rfl⟩
  rintro ⟨k, hinv⟩
  dsimp only
  have hk := hinv
  refine AW_seq ?_
  refine AW_seq ?_
  refine AW_region ?_
  refine AL_p (x_move rfl rfl) ?_
  refine AL_p (x_move rfl rfl) ?_
  refine AL_p (x_len (E := 5) (n := 1) rfl rfl (by kernel_rfl)) ?_
  refine AL_b (x_lss rfl rfl rfl) (fun b11 h11 => ?_)
  refine AL_p (x_move rfl rfl) ?_
  cases b11
  · try simp only [tdy] at h11
    obtain rfl : k = min b.length 4000 := by omega
    refine AL_o rfl rfl rfl rfl ?_
    refine AL_o rfl rfl rfl rfl ?_
    refine AL_p (x_pickF rfl rfl rfl) ?_
    refine AL_nil ?_
    refine AW_condF rfl ?_
    refine AW_exit (BQ_hit ?_)
    refine AW_seq ?_
    refine AW_region ?_
    refine AL_p (x_move rfl rfl) ?_
    refine AL_p (x_move rfl rfl) ?_
    refine AL_p (x_build (zs := [.slice none 0 0, .int .i64 0, .int .i64 0]) (places := [(0, 1), (1, 1), (2, 1)]) rfl (by kernel_rfl) rfl rfl rfl rfl rfl) ?_
    refine AL_p (x_box 200 rfl rfl rfl rfl rfl rfl rfl) ?_
    refine AL_p (x_assign rfl rfl) ?_
    refine AL_nil ?_
    refine AW_ret ?_
    exact ⟨rn [], ⟨⟨⟨_, rfl, VLe.rf⟩, trivial⟩, ⟨⟨_, rfl, ble_eq rfl⟩, trivial⟩, trivial, rfl⟩⟩
  try simp only [tdy] at h11
  refine AL_g rfl rfl (x_move rfl rfl) ?_
  refine AL_gb rfl rfl (x_lss rfl rfl rfl) (fun b14 h14 => ?_)
  refine AL_p (x_pickT rfl rfl rfl) ?_
  refine AL_nil ?_
  cases b14
  · try simp only [tdy] at h14
    obtain rfl : k = min b.length 4000 := by omega
    refine AW_condF rfl ?_
    refine AW_exit (BQ_hit ?_)
    refine AW_seq ?_
    refine AW_region ?_
    refine AL_p (x_move rfl rfl) ?_
    refine AL_p (x_move rfl rfl) ?_
    refine AL_p (x_build (zs := [.slice none 0 0, .int .i64 0, .int .i64 0]) (places := [(0, 1), (1, 1), (2, 1)]) rfl (by kernel_rfl) rfl rfl rfl rfl rfl) ?_
    refine AL_p (x_box 200 rfl rfl rfl rfl rfl rfl rfl) ?_
    refine AL_p (x_assign rfl rfl) ?_
    refine AL_nil ?_
    refine AW_ret ?_
    exact ⟨rn [], ⟨⟨⟨_, rfl, VLe.rf⟩, trivial⟩, ⟨⟨_, rfl, ble_eq rfl⟩, trivial⟩, trivial, rfl⟩⟩
  try simp only [tdy] at h14
  refine AW_condT rfl ?_
  refine AW_skip ?_
  refine AW_seq ?_
  refine AW_block ?_
  refine AW_region ?_
  refine AL_p (x_move rfl rfl) ?_
  refine AL_p (x_mul rfl rfl rfl (r := w64 (hashTo b k * 131)) rfl) ?_
  refine AL_p (x_move rfl rfl) ?_
  refine AL_p (x_move rfl rfl) ?_
  refine AL_p (x_index (E := 5) (n := 1) rfl rfl rfl (by kernel_rfl) rfl (k := k) rfl (by omega)) ?_
  refine AL_p (x_eload1 rfl rfl (by kernel_rfl) rfl) ?_
  refine AL_p (x_conv (k' := .i64) rfl rfl (by kernel_rfl) (r := w64 (b.getD k 0)) (congrArg w64 (getD_int (by omega)))) ?_
  refine AL_p (x_add rfl rfl rfl (r := w64 (w64 (hashTo b k * 131) + w64 (b.getD k 0))) rfl) ?_
  refine AL_p (x_add rfl rfl rfl (r := w64 (w64 (w64 (hashTo b k * 131) + w64 (b.getD k 0)) + 7)) rfl) ?_
  refine AL_p (x_and rfl rfl rfl ) ?_
  refine AL_p (x_assign rfl rfl) ?_
  refine AL_nil ?_
  refine AW_region ?_
  refine AL_p (x_move rfl rfl) ?_
  refine AL_p (x_add rfl rfl rfl (IntWalk.i64_in _ (by omega))) ?_
  refine AL_p (x_assign rfl rfl) ?_
  refine AL_nil ?_
  refine ⟨⟨k + 1, by omega⟩, rn [], ?_, by dsimp only; omega⟩
  exact ⟨by (repeat refine ⟨⟨_, rfl, by first | exact VLe.rf | exact vle_int (by dsimp only; omega)⟩, ?_⟩); exact trivial, by (repeat refine ⟨⟨_, rfl, by first | exact BLe.rf | exact BLe.box AllC.rf | exact BLe.arr (by exact rfl)⟩, ?_⟩); exact trivial, by repeat (first | exact trivial | refine ⟨⟨rfl, by first | (left; intro h; cases h) | (right; rfl), by first | exact (fun _ h => ⟨_, h⟩) | exact (fun _ _ => ⟨_, rfl⟩) | (intro _ h; cases h)⟩, ?_⟩), rfl⟩

set_option maxHeartbeats 4000000 in
theorem byte_c (b : List Int) (c : Cur) (hb : b.length ≤ 1048576) : AC Try.prog 61 [.one (.ptr 200 0)] [(200, some (curB b c))] (.one (.c (.int .i64 ((dByte b c).1)))) [(200, some (curB b (dByte b c).2))] := by
  refine AC_body1 Try.func61 rfl rfl Try.ntmps61 rfl Try.results61 ?_
  refine AW_seq ?_
  refine AW_region ?_
  refine AL_p (x_assign rfl rfl) ?_
  refine AL_nil ?_
  refine AW_seq ?_
  refine AW_region ?_
  refine AL_p (x_move rfl rfl) ?_
  refine AL_p (x_move rfl rfl) ?_
  refine AL_p (x_nilc rfl rfl rfl) ?_
  refine AL_p (x_field (off := 2) (o' := 2) rfl rfl rfl (by kernel_rfl) rfl) ?_
  refine AL_p (x_load1 rfl rfl rfl (by kernel_rfl) rfl) ?_
  refine AL_p (x_mul rfl rfl rfl (r := w64 (c.h * 6364136223846793005)) rfl) ?_
  refine AL_p (x_add rfl rfl rfl (r := nextH c.h) rfl) ?_
  refine AL_p (x_nilc rfl rfl rfl) ?_
  refine AL_p (x_field (off := 2) (o' := 2) rfl rfl rfl (by kernel_rfl) rfl) ?_
  refine AL_p (x_store (n := 1) rfl rfl rfl rfl (by kernel_rfl) rfl rfl rfl) ?_
  refine AL_nil ?_
  refine AW_seq ?_
  refine AW_draw rfl ?_
  refine AL_p (x_move rfl rfl) ?_
  refine AL_p (x_nilc rfl rfl rfl) ?_
  refine AL_p (x_field (off := 2) (o' := 2) rfl rfl rfl (by kernel_rfl) rfl) ?_
  refine AL_p (x_load1 rfl rfl rfl (by kernel_rfl) rfl) ?_
  refine AL_p (x_shr rfl rfl rfl (r := (nextH c.h).fdiv (2 ^ 33)) (by decide) rfl (shr_33 _)) ?_
  refine AL_p (x_move rfl rfl) ?_
  refine AL_p (x_nilc rfl rfl rfl) ?_
  refine AL_p (x_field (off := 2) (o' := 2) rfl rfl rfl (by kernel_rfl) rfl) ?_
  refine AL_p (x_load1 rfl rfl rfl (by kernel_rfl) rfl) ?_
  refine AL_p (x_shr rfl rfl rfl (r := (nextH c.h).fdiv (2 ^ 45)) (by decide) rfl (shr_45 _)) ?_
  refine AL_p (x_xor rfl rfl rfl ) ?_
  refine AL_p (x_and rfl rfl rfl ) ?_
  refine AL_p (x_assign rfl rfl) ?_
  refine AL_nild (by kernel_rfl) ?_
  refine AW_seq ?_
  refine AW_seq ?_
  refine AW_draw rfl ?_
  refine AL_p (x_move rfl rfl) ?_
  refine AL_p (x_nilc rfl rfl rfl) ?_
  refine AL_p (x_field (off := 1) (o' := 1) rfl rfl rfl (by kernel_rfl) rfl) ?_
  refine AL_p (x_load1 rfl rfl rfl (by kernel_rfl) rfl) ?_
  refine AL_p (x_move rfl rfl) ?_
  refine AL_p (x_nilc rfl rfl rfl) ?_
  refine AL_p (x_field (off := 0) (o' := 0) rfl rfl rfl (by kernel_rfl) rfl) ?_
  refine AL_p (x_load1 rfl rfl rfl (by kernel_rfl) rfl) ?_
  refine AL_p (x_len (E := 5) (n := 1) rfl rfl (by kernel_rfl)) ?_
  refine AL_b (x_lss rfl rfl rfl) (fun b34 h34 => ?_)
  refine AL_nild (by kernel_rfl) ?_
  cases b34
  · try simp only [tdy] at h34
    have hno := dByte_no (b := b) (c := c) (by omega)
    refine AW_condF rfl ?_
    refine AW_skip ?_
    refine AW_seq ?_
    refine AW_region ?_
    refine AL_p (x_move rfl rfl) ?_
    refine AL_p (x_assign rfl rfl) ?_
    refine AL_nil ?_
    refine AW_ret ?_
    exact ⟨rn [], ⟨⟨⟨_, rfl, vle_int (by rw [hno]; first | done | rfl)⟩, trivial⟩, ⟨⟨_, rfl, by first | exact BLe.rf | exact ble_eq (by rw [hno]; first | done | rfl)⟩, trivial⟩, by repeat (first | exact trivial | refine ⟨⟨rfl, by first | (left; intro h; cases h) | (right; rfl), by first | exact (fun _ h => ⟨_, h⟩) | exact (fun _ _ => ⟨_, rfl⟩) | (intro _ h; cases h)⟩, ?_⟩), rfl⟩⟩
  try simp only [tdy] at h34
  have hno := dByte_yes (b := b) (c := c) (by omega)
  refine AW_condT rfl ?_
  refine AW_seq ?_
  refine AW_draw rfl ?_
  refine AL_p (x_move rfl rfl) ?_
  refine AL_p (x_move rfl rfl) ?_
  refine AL_p (x_nilc rfl rfl rfl) ?_
  refine AL_p (x_field (off := 0) (o' := 0) rfl rfl rfl (by kernel_rfl) rfl) ?_
  refine AL_p (x_load1 rfl rfl rfl (by kernel_rfl) rfl) ?_
  refine AL_p (x_move rfl rfl) ?_
  refine AL_p (x_nilc rfl rfl rfl) ?_
  refine AL_p (x_field (off := 1) (o' := 1) rfl rfl rfl (by kernel_rfl) rfl) ?_
  refine AL_p (x_load1 rfl rfl rfl (by kernel_rfl) rfl) ?_
  refine AL_p (x_index (E := 5) (n := 1) rfl rfl rfl (by kernel_rfl) rfl (k := c.i) rfl (by omega)) ?_
  refine AL_p (x_eload1 rfl rfl (by kernel_rfl) rfl) ?_
  refine AL_p (x_conv (k' := .i64) rfl rfl (by kernel_rfl) (r := w64 (b.getD c.i 0)) (congrArg w64 (getD_int (by omega)))) ?_
  refine AL_p (x_add rfl rfl rfl (r := w64 (mixH (nextH c.h) + w64 (b.getD c.i 0))) rfl) ?_
  refine AL_p (x_and rfl rfl rfl ) ?_
  refine AL_p (x_assign rfl rfl) ?_
  refine AL_nild (by kernel_rfl) ?_
  refine AW_region ?_
  refine AL_p (x_move rfl rfl) ?_
  refine AL_p (x_move rfl rfl) ?_
  refine AL_p (x_nilc rfl rfl rfl) ?_
  refine AL_p (x_field (off := 1) (o' := 1) rfl rfl rfl (by kernel_rfl) rfl) ?_
  refine AL_p (x_load1 rfl rfl rfl (by kernel_rfl) rfl) ?_
  refine AL_p (x_add rfl rfl rfl (IntWalk.i64_in _ (by omega))) ?_
  refine AL_p (x_nilc rfl rfl rfl) ?_
  refine AL_p (x_field (off := 1) (o' := 1) rfl rfl rfl (by kernel_rfl) rfl) ?_
  refine AL_p (x_store (n := 1) rfl rfl rfl rfl (by kernel_rfl) rfl rfl rfl) ?_
  refine AL_nil ?_
  refine AW_seq ?_
  refine AW_region ?_
  refine AL_p (x_move rfl rfl) ?_
  refine AL_p (x_assign rfl rfl) ?_
  refine AL_nil ?_
  refine AW_ret ?_
  exact ⟨rn [], ⟨⟨⟨_, rfl, vle_int (by rw [hno]; first | done | rfl)⟩, trivial⟩, ⟨⟨_, rfl, by first | exact BLe.rf | exact ble_eq (by rw [hno]; first | done | rfl)⟩, trivial⟩, by repeat (first | exact trivial | refine ⟨⟨rfl, by first | (left; intro h; cases h) | (right; rfl), by first | exact (fun _ h => ⟨_, h⟩) | exact (fun _ _ => ⟨_, rfl⟩) | (intro _ h; cases h)⟩, ?_⟩), rfl⟩⟩

set_option maxHeartbeats 4000000 in
theorem below_c (b : List Int) (c : Cur) (hb : b.length ≤ 1048576) (n : Int) : AC Try.prog 59 [.one (.ptr 200 0), .one (.c (.int .i64 n))] [(200, some (curB b c))] (.one (.c (.int .i64 ((dBelow b c n).1)))) [(200, some (curB b (dBelow b c n).2))] := by
  refine AC_body1 Try.func59 rfl rfl Try.ntmps59 rfl Try.results59 ?_
  refine AW_seq ?_
  refine AW_region ?_
  refine AL_p (x_assign rfl rfl) ?_
  refine AL_nil ?_
  refine AW_seq ?_
  refine AW_seq ?_
  refine AW_region ?_
  refine AL_p (x_move rfl rfl) ?_
  refine AL_b (x_leq rfl rfl rfl) (fun b10 h10 => ?_)
  refine AL_nil ?_
  cases b10
  rotate_left
  · try simp only [tdy] at h10
    have hno := dBelow_0 (b := b) (c := c) (n := n) (by omega)
    refine AW_condT rfl ?_
    refine AW_seq ?_
    refine AW_region ?_
    refine AL_p (x_assign rfl rfl) ?_
    refine AL_nil ?_
    refine AW_ret ?_
    exact ⟨rn [], ⟨⟨⟨_, rfl, vle_int (by rw [hno]; first | done | rfl)⟩, trivial⟩, ⟨⟨_, rfl, by first | exact BLe.rf | exact ble_eq (by rw [hno]; first | done | rfl)⟩, trivial⟩, by repeat (first | exact trivial | refine ⟨⟨rfl, by first | (left; intro h; cases h) | (right; rfl), by first | exact (fun _ h => ⟨_, h⟩) | exact (fun _ _ => ⟨_, rfl⟩) | (intro _ h; cases h)⟩, ?_⟩), rfl⟩⟩
  try simp only [tdy] at h10
  refine AW_condF rfl ?_
  refine AW_skip ?_
  refine AW_seq ?_
  refine AW_seq ?_
  refine AW_region ?_
  refine AL_p (x_move rfl rfl) ?_
  refine AL_b (x_leq rfl rfl rfl) (fun b12 h12 => ?_)
  refine AL_nil ?_
  cases b12
  rotate_left
  · try simp only [tdy] at h12
    have hno := dBelow_1 (b := b) (c := c) (n := n) (by omega) (by omega)
    have hd1 := dByte_in b c
    refine AW_condT rfl ?_
    refine AW_seq ?_
    refine AW_region ?_
    refine AL_p (x_move rfl rfl) ?_
    refine AL_p (x_call (ks := []) (L := [(200, some _)]) (L' := [(200, some _)]) rfl rfl rfl (byte_c b c hb) rfl AllV.rf (caught_of rfl) rfl rfl rfl ⟨rfl, trivial⟩ rfl) ?_
    refine AL_p (x_move rfl rfl) ?_
    refine AL_p (x_rem rfl rfl rfl (by omega) rfl (rem_wf hd1.1 (by omega) (by omega))) ?_
    refine AL_p (x_assign rfl rfl) ?_
    refine AL_nil ?_
    refine AW_ret ?_
    exact ⟨rn [], ⟨⟨⟨_, rfl, vle_int (by rw [hno]; first | done | rfl)⟩, trivial⟩, ⟨⟨_, rfl, by first | exact BLe.rf | exact ble_eq (by rw [hno]; first | done | rfl)⟩, trivial⟩, by repeat (first | exact trivial | refine ⟨⟨rfl, by first | (left; intro h; cases h) | (right; rfl), by first | exact (fun _ h => ⟨_, h⟩) | exact (fun _ _ => ⟨_, rfl⟩) | (intro _ h; cases h)⟩, ?_⟩), rfl⟩⟩
  try simp only [tdy] at h12
  have hno := dBelow_2 (b := b) (c := c) (n := n) (by omega) (by omega)
  have hd2 := dFour_in b c
  have g1 := dByte_in b c
  have g2 := dByte_in b (dByte b c).2
  have g3 := dByte_in b (dByte b (dByte b c).2).2
  have g4 := dByte_in b (dByte b (dByte b (dByte b c).2).2).2
  refine AW_condF rfl ?_
  refine AW_skip ?_
  refine AW_seq ?_
  refine AW_region ?_
  refine AL_p (x_move rfl rfl) ?_
  refine AL_p (x_call (ks := []) (L := [(200, some _)]) (L' := [(200, some _)]) rfl rfl rfl (byte_c b c hb) rfl AllV.rf (caught_of rfl) rfl rfl rfl ⟨rfl, trivial⟩ rfl) ?_
  refine AL_p (x_assign rfl rfl) ?_
  refine AL_nil ?_
  refine AW_seq ?_
  refine AW_region ?_
  refine AL_p (x_move rfl rfl) ?_
  refine AL_p (x_call (ks := []) (L := [(200, some _)]) (L' := [(200, some _)]) rfl rfl rfl (byte_c b (dByte b c).2 hb) rfl AllV.rf (caught_of rfl) rfl rfl rfl ⟨rfl, trivial⟩ rfl) ?_
  refine AL_p (x_assign rfl rfl) ?_
  refine AL_nil ?_
  refine AW_seq ?_
  refine AW_region ?_
  refine AL_p (x_move rfl rfl) ?_
  refine AL_p (x_call (ks := []) (L := [(200, some _)]) (L' := [(200, some _)]) rfl rfl rfl (byte_c b (dByte b (dByte b c).2).2 hb) rfl AllV.rf (caught_of rfl) rfl rfl rfl ⟨rfl, trivial⟩ rfl) ?_
  refine AL_p (x_assign rfl rfl) ?_
  refine AL_nil ?_
  refine AW_seq ?_
  refine AW_region ?_
  refine AL_p (x_move rfl rfl) ?_
  refine AL_p (x_call (ks := []) (L := [(200, some _)]) (L' := [(200, some _)]) rfl rfl rfl (byte_c b (dByte b (dByte b (dByte b c).2).2).2 hb) rfl AllV.rf (caught_of rfl) rfl rfl rfl ⟨rfl, trivial⟩ rfl) ?_
  refine AL_p (x_assign rfl rfl) ?_
  refine AL_nil ?_
  refine AW_seq ?_
  refine AW_region ?_
  refine AL_p (x_move rfl rfl) ?_
  refine AL_p (x_mul rfl rfl rfl (IntWalk.i64_in _ (by omega))) ?_
  refine AL_p (x_move rfl rfl) ?_
  refine AL_p (x_mul rfl rfl rfl (IntWalk.i64_in _ (by omega))) ?_
  refine AL_p (x_add rfl rfl rfl (IntWalk.i64_in _ (by omega))) ?_
  refine AL_p (x_move rfl rfl) ?_
  refine AL_p (x_mul rfl rfl rfl (IntWalk.i64_in _ (by omega))) ?_
  refine AL_p (x_add rfl rfl rfl (IntWalk.i64_in _ (by omega))) ?_
  refine AL_p (x_move rfl rfl) ?_
  refine AL_p (x_add rfl rfl rfl (IntWalk.i64_in _ (by omega))) ?_
  refine AL_p (x_move rfl rfl) ?_
  refine AL_p (x_rem rfl rfl rfl (by omega) rfl (rem_wf (m := (dFour b c).1) hd2.1 (by omega) (by omega))) ?_
  refine AL_p (x_assign rfl rfl) ?_
  refine AL_nil ?_
  refine AW_ret ?_
  exact ⟨rn [], ⟨⟨⟨_, rfl, vle_int (by rw [hno]; first | done | rfl)⟩, trivial⟩, ⟨⟨_, rfl, by first | exact BLe.rf | exact ble_eq (by rw [hno]; first | done | rfl)⟩, trivial⟩, by repeat (first | exact trivial | refine ⟨⟨rfl, by first | (left; intro h; cases h) | (right; rfl), by first | exact (fun _ h => ⟨_, h⟩) | exact (fun _ _ => ⟨_, rfl⟩) | (intro _ h; cases h)⟩, ?_⟩), rfl⟩⟩

set_option maxHeartbeats 4000000 in
theorem pow_c (n : Int) (h0 : 0 ≤ n) (h1 : n ≤ 6) : AC Try.prog 147 [.one (.c (.int .i64 n))] [] (.one (.c (.int .i64 (256 ^ n.toNat)))) [] := by
  refine AC_body1 Try.func147 rfl rfl Try.ntmps147 rfl Try.results147 ?_
  refine AW_seq ?_
  refine AW_region ?_
  refine AL_p (x_assign rfl rfl) ?_
  refine AL_nil ?_
  refine AW_seq ?_
  refine AW_region ?_
  refine AL_p (x_assign rfl rfl) ?_
  refine AL_nil ?_
  refine AW_seq ?_
  refine AW_seq ?_
  refine AW_region ?_
  refine AL_p (x_assign rfl rfl) ?_
  refine AL_nil ?_
  refine AW_block ?_
  refine AW_loop2 (ι := {q : Nat // (q : Int) ≤ n}) (fun p => [(3, .one (.c (.int .i64 (256 ^ (p.1))))), (4, .one (.c (.int .i64 (((p.1) : Int)))))]) (fun p => []) [0] [] (fun p => 7 - (p.1)) ⟨0, by omega⟩ (rn []) ?_ ?_
  exact ⟨by (repeat refine ⟨⟨_, rfl, by first | exact VLe.rf | exact vle_int (by dsimp only; omega)⟩, ?_⟩); exact trivial, by (repeat refine ⟨⟨_, rfl, by first | exact BLe.rf | exact BLe.box AllC.rf | exact BLe.arr (by exact rfl)⟩, ?_⟩); exact trivial, by repeat (first | exact trivial | refine ⟨⟨rfl, by first | (left; intro h; cases h) | (right; rfl), by first | exact (fun _ h => ⟨_, h⟩) | exact (fun _ _ => ⟨_, rfl⟩) | (intro _ h; cases h)⟩, ?_⟩), rfl⟩
  rintro ⟨k, hinv⟩
  dsimp only
  have hk := hinv
  refine AW_seq ?_
  refine AW_seq ?_
  refine AW_region ?_
  refine AL_p (x_move rfl rfl) ?_
  refine AL_p (x_move rfl rfl) ?_
  refine AL_b (x_lss rfl rfl rfl) (fun b7 h7 => ?_)
  refine AL_nil ?_
  cases b7
  · try simp only [tdy] at h7
    obtain rfl : k = n.toNat := by omega
    refine AW_condF rfl ?_
    refine AW_exit (BQ_hit ?_)
    refine AW_seq ?_
    refine AW_region ?_
    refine AL_p (x_move rfl rfl) ?_
    refine AL_p (x_assign rfl rfl) ?_
    refine AL_nil ?_
    refine AW_ret ?_
    exact ⟨rn [], ⟨⟨⟨_, rfl, vle_int (rfl)⟩, trivial⟩, trivial, trivial, rfl⟩⟩
  try simp only [tdy] at h7
  refine AW_condT rfl ?_
  refine AW_skip ?_
  refine AW_seq ?_
  refine AW_block ?_
  refine AW_region ?_
  refine AL_p (x_move rfl rfl) ?_
  refine AL_p (x_mul rfl rfl rfl (pow_step (by omega))) ?_
  refine AL_p (x_assign rfl rfl) ?_
  refine AL_nil ?_
  refine AW_region ?_
  refine AL_p (x_move rfl rfl) ?_
  refine AL_p (x_add rfl rfl rfl (IntWalk.i64_in _ (by omega))) ?_
  refine AL_p (x_assign rfl rfl) ?_
  refine AL_nil ?_
  refine ⟨⟨k + 1, by omega⟩, rn [], ?_, by dsimp only; omega⟩
  exact ⟨by (repeat refine ⟨⟨_, rfl, by first | exact VLe.rf | exact vle_int (by dsimp only; omega)⟩, ?_⟩); exact trivial, by (repeat refine ⟨⟨_, rfl, by first | exact BLe.rf | exact BLe.box AllC.rf | exact BLe.arr (by exact rfl)⟩, ?_⟩); exact trivial, by repeat (first | exact trivial | refine ⟨⟨rfl, by first | (left; intro h; cases h) | (right; rfl), by first | exact (fun _ h => ⟨_, h⟩) | exact (fun _ _ => ⟨_, rfl⟩) | (intro _ h; cases h)⟩, ?_⟩), rfl⟩

set_option maxHeartbeats 4000000 in
theorem raw_c (b : List Int) (c : Cur) (hb : b.length ≤ 1048576) : AC Try.prog 131 [.one (.ptr 200 0)] [(200, some (curB b c))] (.one (.c (.int .i64 ((dRaw b c).1)))) [(200, some (curB b (dRaw b c).2))] := by
  refine AC_body1 Try.func131 rfl rfl Try.ntmps131 rfl Try.results131 ?_
  refine AW_seq ?_
  refine AW_region ?_
  refine AL_p (x_assign rfl rfl) ?_
  refine AL_nil ?_
  refine AW_seq ?_
  refine AW_region ?_
  refine AL_p (x_move rfl rfl) ?_
  refine AL_p (x_call (ks := []) (L := [(200, some _)]) (L' := [(200, some _)]) rfl rfl rfl (below_c b c hb 12) rfl AllV.rf (caught_of rfl) rfl rfl rfl ⟨rfl, trivial⟩ rfl) ?_
  refine AL_p (x_assign rfl rfl) ?_
  refine AL_nil ?_
  refine AW_seq ?_
  refine AW_seq ?_
  refine AW_region ?_
  refine AL_p (x_move rfl rfl) ?_
  refine AL_b (x_lss rfl rfl rfl) (fun b7 h7 => ?_)
  refine AL_nil ?_
  cases b7
  rotate_left
  · try simp only [tdy] at h7
    have hno : dRaw b c = _ := if_pos (by omega)
    refine AW_condT rfl ?_
    refine AW_seq ?_
    refine AW_region ?_
    refine AL_p (x_move rfl rfl) ?_
    refine AL_p (x_call (ks := []) (L := [(200, some _)]) (L' := [(200, some _)]) rfl rfl rfl (below_c b (dBelow b c 12).2 hb 12) rfl AllV.rf (caught_of rfl) rfl rfl rfl ⟨rfl, trivial⟩ rfl) ?_
    refine AL_p (x_assign rfl rfl) ?_
    refine AL_nil ?_
    refine AW_ret ?_
    exact ⟨rn [], ⟨⟨⟨_, rfl, vle_int (by rw [hno]; first | done | rfl)⟩, trivial⟩, ⟨⟨_, rfl, by first | exact BLe.rf | exact ble_eq (by rw [hno]; first | done | rfl)⟩, trivial⟩, by repeat (first | exact trivial | refine ⟨⟨rfl, by first | (left; intro h; cases h) | (right; rfl), by first | exact (fun _ h => ⟨_, h⟩) | exact (fun _ _ => ⟨_, rfl⟩) | (intro _ h; cases h)⟩, ?_⟩), rfl⟩⟩
  try simp only [tdy] at h7
  refine AW_condF rfl ?_
  refine AW_skip ?_
  refine AW_seq ?_
  refine AW_seq ?_
  refine AW_region ?_
  refine AL_p (x_move rfl rfl) ?_
  refine AL_b (x_eql rfl rfl rfl) (fun b11 h11 => ?_)
  refine AL_nil ?_
  cases b11
  rotate_left
  · try simp only [tdy] at h11
    have hno : dRaw b c = _ := (if_neg (by omega)).trans (if_pos (by omega))
    refine AW_condT rfl ?_
    refine AW_seq ?_
    refine AW_region ?_
    refine AL_p (x_move rfl rfl) ?_
    refine AL_p (x_call (ks := []) (L := [(200, some _)]) (L' := [(200, some _)]) rfl rfl rfl (below_c b (dBelow b c 12).2 hb 256) rfl AllV.rf (caught_of rfl) rfl rfl rfl ⟨rfl, trivial⟩ rfl) ?_
    refine AL_p (x_assign rfl rfl) ?_
    refine AL_nil ?_
    refine AW_ret ?_
    exact ⟨rn [], ⟨⟨⟨_, rfl, vle_int (by rw [hno]; first | done | rfl)⟩, trivial⟩, ⟨⟨_, rfl, by first | exact BLe.rf | exact ble_eq (by rw [hno]; first | done | rfl)⟩, trivial⟩, by repeat (first | exact trivial | refine ⟨⟨rfl, by first | (left; intro h; cases h) | (right; rfl), by first | exact (fun _ h => ⟨_, h⟩) | exact (fun _ _ => ⟨_, rfl⟩) | (intro _ h; cases h)⟩, ?_⟩), rfl⟩⟩
  try simp only [tdy] at h11
  refine AW_condF rfl ?_
  refine AW_skip ?_
  refine AW_seq ?_
  refine AW_seq ?_
  refine AW_region ?_
  refine AL_p (x_move rfl rfl) ?_
  refine AL_b (x_eql rfl rfl rfl) (fun b15 h15 => ?_)
  refine AL_nil ?_
  cases b15
  rotate_left
  · try simp only [tdy] at h15
    have hno : dRaw b c = _ := (if_neg (by omega)).trans ((if_neg (by omega)).trans (if_pos (by omega)))
    have hd1 := dBelow_lt b (dBelow b c 12).2 (n := 2) (by decide)
    have hd2 := dBelow_lt b (dBelow b (dBelow b c 12).2 2).2 (n := 3) (by decide)
    refine AW_condT rfl ?_
    refine AW_seq ?_
    refine AW_region ?_
    refine AL_p (x_move rfl rfl) ?_
    refine AL_p (x_call (ks := []) (L := [(200, some _)]) (L' := [(200, some _)]) rfl rfl rfl (below_c b (dBelow b c 12).2 hb 2) rfl AllV.rf (caught_of rfl) rfl rfl rfl ⟨rfl, trivial⟩ rfl) ?_
    refine AL_p (x_sub rfl rfl rfl (IntWalk.i64_in _ (by omega))) ?_
    refine AL_p (x_move rfl rfl) ?_
    refine AL_p (x_call (ks := []) (L := [(200, some _)]) (L' := [(200, some _)]) rfl rfl rfl (below_c b (dBelow b (dBelow b c 12).2 2).2 hb 3) rfl AllV.rf (caught_of rfl) rfl rfl rfl ⟨rfl, trivial⟩ rfl) ?_
    refine AL_p (x_add rfl rfl rfl (IntWalk.i64_in _ (by omega))) ?_
    refine AL_p (x_assign rfl rfl) ?_
    refine AL_nil ?_
    refine AW_ret ?_
    exact ⟨rn [], ⟨⟨⟨_, rfl, vle_int (by rw [hno]; first | done | rfl)⟩, trivial⟩, ⟨⟨_, rfl, by first | exact BLe.rf | exact ble_eq (by rw [hno]; first | done | rfl)⟩, trivial⟩, by repeat (first | exact trivial | refine ⟨⟨rfl, by first | (left; intro h; cases h) | (right; rfl), by first | exact (fun _ h => ⟨_, h⟩) | exact (fun _ _ => ⟨_, rfl⟩) | (intro _ h; cases h)⟩, ?_⟩), rfl⟩⟩
  try simp only [tdy] at h15
  refine AW_condF rfl ?_
  refine AW_skip ?_
  refine AW_seq ?_
  refine AW_seq ?_
  refine AW_region ?_
  refine AL_p (x_move rfl rfl) ?_
  refine AL_b (x_eql rfl rfl rfl) (fun b23 h23 => ?_)
  refine AL_nil ?_
  cases b23
  rotate_left
  · try simp only [tdy] at h23
    have hno : dRaw b c = _ := (if_neg (by omega)).trans ((if_neg (by omega)).trans ((if_neg (by omega)).trans (if_pos (by omega))))
    have hd1 := dBelow_lt b (dBelow b c 12).2 (n := 3) (by decide)
    refine AW_condT rfl ?_
    refine AW_seq ?_
    refine AW_region ?_
    refine AL_p (x_move rfl rfl) ?_
    refine AL_p (x_call (ks := []) (L := [(200, some _)]) (L' := [(200, some _)]) rfl rfl rfl (below_c b (dBelow b c 12).2 hb 3) rfl AllV.rf (caught_of rfl) rfl rfl rfl ⟨rfl, trivial⟩ rfl) ?_
    refine AL_p (x_sub rfl rfl rfl (IntWalk.i64_in _ (by omega))) ?_
    refine AL_p (x_assign rfl rfl) ?_
    refine AL_nil ?_
    refine AW_ret ?_
    exact ⟨rn [], ⟨⟨⟨_, rfl, vle_int (by rw [hno]; first | done | rfl)⟩, trivial⟩, ⟨⟨_, rfl, by first | exact BLe.rf | exact ble_eq (by rw [hno]; first | done | rfl)⟩, trivial⟩, by repeat (first | exact trivial | refine ⟨⟨rfl, by first | (left; intro h; cases h) | (right; rfl), by first | exact (fun _ h => ⟨_, h⟩) | exact (fun _ _ => ⟨_, rfl⟩) | (intro _ h; cases h)⟩, ?_⟩), rfl⟩⟩
  try simp only [tdy] at h23
  refine AW_condF rfl ?_
  refine AW_skip ?_
  refine AW_seq ?_
  refine AW_seq ?_
  refine AW_region ?_
  refine AL_p (x_move rfl rfl) ?_
  refine AL_b (x_eql rfl rfl rfl) (fun b28 h28 => ?_)
  refine AL_nil ?_
  cases b28
  rotate_left
  · try simp only [tdy] at h28
    have hno : dRaw b c = _ := (if_neg (by omega)).trans ((if_neg (by omega)).trans ((if_neg (by omega)).trans ((if_neg (by omega)).trans (if_pos (by omega)))))
    have hd1 := dBelow_lt b (dBelow b c 12).2 (n := 2) (by decide)
    refine AW_condT rfl ?_
    refine AW_seq ?_
    refine AW_region ?_
    refine AL_p (x_move rfl rfl) ?_
    refine AL_p (x_call (ks := []) (L := [(200, some _)]) (L' := [(200, some _)]) rfl rfl rfl (below_c b (dBelow b c 12).2 hb 2) rfl AllV.rf (caught_of rfl) rfl rfl rfl ⟨rfl, trivial⟩ rfl) ?_
    refine AL_p (x_sub rfl rfl rfl (IntWalk.i64_in _ (by omega))) ?_
    refine AL_p (x_assign rfl rfl) ?_
    refine AL_nil ?_
    refine AW_ret ?_
    exact ⟨rn [], ⟨⟨⟨_, rfl, vle_int (by rw [hno]; first | done | rfl)⟩, trivial⟩, ⟨⟨_, rfl, by first | exact BLe.rf | exact ble_eq (by rw [hno]; first | done | rfl)⟩, trivial⟩, by repeat (first | exact trivial | refine ⟨⟨rfl, by first | (left; intro h; cases h) | (right; rfl), by first | exact (fun _ h => ⟨_, h⟩) | exact (fun _ _ => ⟨_, rfl⟩) | (intro _ h; cases h)⟩, ?_⟩), rfl⟩⟩
  try simp only [tdy] at h28
  refine AW_condF rfl ?_
  refine AW_skip ?_
  refine AW_seq ?_
  refine AW_seq ?_
  refine AW_region ?_
  refine AL_p (x_move rfl rfl) ?_
  refine AL_b (x_eql rfl rfl rfl) (fun b33 h33 => ?_)
  refine AL_nil ?_
  cases b33
  rotate_left
  · try simp only [tdy] at h33
    have hno : dRaw b c = _ := (if_neg (by omega)).trans ((if_neg (by omega)).trans ((if_neg (by omega)).trans ((if_neg (by omega)).trans ((if_neg (by omega)).trans (if_pos (by omega))))))
    have hd1 := dBelow_lt b (dBelow b c 12).2 (n := 2) (by decide)
    refine AW_condT rfl ?_
    refine AW_seq ?_
    refine AW_region ?_
    refine AL_p (x_move rfl rfl) ?_
    refine AL_p (x_call (ks := []) (L := [(200, some _)]) (L' := [(200, some _)]) rfl rfl rfl (below_c b (dBelow b c 12).2 hb 2) rfl AllV.rf (caught_of rfl) rfl rfl rfl ⟨rfl, trivial⟩ rfl) ?_
    refine AL_p (x_sub rfl rfl rfl (IntWalk.i64_in _ (by omega))) ?_
    refine AL_p (x_assign rfl rfl) ?_
    refine AL_nil ?_
    refine AW_ret ?_
    exact ⟨rn [], ⟨⟨⟨_, rfl, vle_int (by rw [hno]; first | done | rfl)⟩, trivial⟩, ⟨⟨_, rfl, by first | exact BLe.rf | exact ble_eq (by rw [hno]; first | done | rfl)⟩, trivial⟩, by repeat (first | exact trivial | refine ⟨⟨rfl, by first | (left; intro h; cases h) | (right; rfl), by first | exact (fun _ h => ⟨_, h⟩) | exact (fun _ _ => ⟨_, rfl⟩) | (intro _ h; cases h)⟩, ?_⟩), rfl⟩⟩
  try simp only [tdy] at h33
  refine AW_condF rfl ?_
  refine AW_skip ?_
  refine AW_seq ?_
  refine AW_seq ?_
  refine AW_region ?_
  refine AL_p (x_move rfl rfl) ?_
  refine AL_b (x_eql rfl rfl rfl) (fun b38 h38 => ?_)
  refine AL_nil ?_
  cases b38
  · try simp only [tdy] at h38
    have hno : dRaw b c = _ := (if_neg (by omega)).trans ((if_neg (by omega)).trans ((if_neg (by omega)).trans ((if_neg (by omega)).trans ((if_neg (by omega)).trans ((if_neg (by omega)).trans (if_neg (by omega)))))))
    have hmu := mul_in (dBelow_lt b (dBelow b c 12).2 (n := 65536) (by decide)) (dBelow_lt b (dBelow b (dBelow b c 12).2 65536).2 (n := 65536) (by decide))
    refine AW_condF rfl ?_
    refine AW_skip ?_
    refine AW_seq ?_
    refine AW_region ?_
    refine AL_p (x_move rfl rfl) ?_
    refine AL_p (x_call (ks := []) (L := [(200, some _)]) (L' := [(200, some _)]) rfl rfl rfl (below_c b (dBelow b c 12).2 hb 65536) rfl AllV.rf (caught_of rfl) rfl rfl rfl ⟨rfl, trivial⟩ rfl) ?_
    refine AL_p (x_move rfl rfl) ?_
    refine AL_p (x_call (ks := []) (L := [(200, some _)]) (L' := [(200, some _)]) rfl rfl rfl (below_c b (dBelow b (dBelow b c 12).2 65536).2 hb 65536) rfl AllV.rf (caught_of rfl) rfl rfl rfl ⟨rfl, trivial⟩ rfl) ?_
    refine AL_p (x_mul rfl rfl rfl (IntWalk.i64_in _ hmu)) ?_
    refine AL_p (x_assign rfl rfl) ?_
    refine AL_nil ?_
    refine AW_ret ?_
    exact ⟨rn [], ⟨⟨⟨_, rfl, vle_int (by rw [hno]; first | done | rfl)⟩, trivial⟩, ⟨⟨_, rfl, by first | exact BLe.rf | exact ble_eq (by rw [hno]; first | done | rfl)⟩, trivial⟩, by repeat (first | exact trivial | refine ⟨⟨rfl, by first | (left; intro h; cases h) | (right; rfl), by first | exact (fun _ h => ⟨_, h⟩) | exact (fun _ _ => ⟨_, rfl⟩) | (intro _ h; cases h)⟩, ?_⟩), rfl⟩⟩
  try simp only [tdy] at h38
  have hno : dRaw b c = _ := (if_neg (by omega)).trans ((if_neg (by omega)).trans ((if_neg (by omega)).trans ((if_neg (by omega)).trans ((if_neg (by omega)).trans ((if_neg (by omega)).trans (if_pos (by omega)))))))
  have hd1 := dBelow_lt b (dBelow b c 12).2 (n := 6) (by decide)
  have hd2 := dBelow_lt b (dBelow b (dBelow b c 12).2 6).2 (n := 2) (by decide)
  have hp := pow_256 (m := (1 + (dBelow b (dBelow b c 12).2 6).1).toNat) (by omega)
  refine AW_condT rfl ?_
  refine AW_seq ?_
  refine AW_region ?_
  refine AL_p (x_move rfl rfl) ?_
  refine AL_p (x_call (ks := []) (L := [(200, some _)]) (L' := [(200, some _)]) rfl rfl rfl (below_c b (dBelow b c 12).2 hb 6) rfl AllV.rf (caught_of rfl) rfl rfl rfl ⟨rfl, trivial⟩ rfl) ?_
  refine AL_p (x_add rfl rfl rfl (IntWalk.i64_in _ (by omega))) ?_
  refine AL_p (x_call0 rfl rfl rfl (pow_c _ (by omega) (by omega)) rfl rfl) ?_
  refine AL_p (x_move rfl rfl) ?_
  refine AL_p (x_call (ks := []) (L := [(200, some _)]) (L' := [(200, some _)]) rfl rfl rfl (below_c b (dBelow b (dBelow b c 12).2 6).2 hb 2) rfl AllV.rf (caught_of rfl) rfl rfl rfl ⟨rfl, trivial⟩ rfl) ?_
  refine AL_p (x_sub rfl rfl rfl (IntWalk.i64_in _ (by omega))) ?_
  refine AL_p (x_assign rfl rfl) ?_
  refine AL_nil ?_
  refine AW_ret ?_
  exact ⟨rn [], ⟨⟨⟨_, rfl, vle_int (by rw [hno]; first | done | rfl)⟩, trivial⟩, ⟨⟨_, rfl, by first | exact BLe.rf | exact ble_eq (by rw [hno]; first | done | rfl)⟩, trivial⟩, by repeat (first | exact trivial | refine ⟨⟨rfl, by first | (left; intro h; cases h) | (right; rfl), by first | exact (fun _ h => ⟨_, h⟩) | exact (fun _ _ => ⟨_, rfl⟩) | (intro _ h; cases h)⟩, ?_⟩), rfl⟩⟩

set_option maxHeartbeats 4000000 in
theorem num6_c (b : List Int) (c : Cur) (hb : b.length ≤ 1048576) : AC Try.prog 155 [.one (.ptr 200 0)] [(200, some (curB b c))] (.one (.c (.int .i64 ((dNum6 b c).1)))) [(200, some (curB b (dNum6 b c).2))] := by
  refine AC_body1 Try.func155 rfl rfl Try.ntmps155 rfl Try.results155 ?_
  refine AW_seq ?_
  refine AW_region ?_
  refine AL_p (x_assign rfl rfl) ?_
  refine AL_nil ?_
  refine AW_seq ?_
  refine AW_region ?_
  refine AL_p (x_move rfl rfl) ?_
  refine AL_p (x_call (ks := []) (L := [(200, some _)]) (L' := [(200, some _)]) rfl rfl rfl (below_c b c hb 8) rfl AllV.rf (caught_of rfl) rfl rfl rfl ⟨rfl, trivial⟩ rfl) ?_
  refine AL_p (x_assign rfl rfl) ?_
  refine AL_nil ?_
  refine AW_seq ?_
  refine AW_seq ?_
  refine AW_region ?_
  refine AL_p (x_move rfl rfl) ?_
  refine AL_b (x_lss rfl rfl rfl) (fun b7 h7 => ?_)
  refine AL_nil ?_
  cases b7
  rotate_left
  · try simp only [tdy] at h7
    have hno : dNum6 b c = _ := if_pos (by omega)
    refine AW_condT rfl ?_
    refine AW_seq ?_
    refine AW_region ?_
    refine AL_p (x_move rfl rfl) ?_
    refine AL_p (x_call (ks := []) (L := [(200, some _)]) (L' := [(200, some _)]) rfl rfl rfl (below_c b (dBelow b c 8).2 hb 9) rfl AllV.rf (caught_of rfl) rfl rfl rfl ⟨rfl, trivial⟩ rfl) ?_
    refine AL_p (x_assign rfl rfl) ?_
    refine AL_nil ?_
    refine AW_ret ?_
    exact ⟨rn [], ⟨⟨⟨_, rfl, vle_int (by rw [hno]; first | done | rfl)⟩, trivial⟩, ⟨⟨_, rfl, by first | exact BLe.rf | exact ble_eq (by rw [hno]; first | done | rfl)⟩, trivial⟩, by repeat (first | exact trivial | refine ⟨⟨rfl, by first | (left; intro h; cases h) | (right; rfl), by first | exact (fun _ h => ⟨_, h⟩) | exact (fun _ _ => ⟨_, rfl⟩) | (intro _ h; cases h)⟩, ?_⟩), rfl⟩⟩
  try simp only [tdy] at h7
  refine AW_condF rfl ?_
  refine AW_skip ?_
  refine AW_seq ?_
  refine AW_seq ?_
  refine AW_region ?_
  refine AL_p (x_move rfl rfl) ?_
  refine AL_b (x_eql rfl rfl rfl) (fun b11 h11 => ?_)
  refine AL_nil ?_
  cases b11
  rotate_left
  · try simp only [tdy] at h11
    have hno : dNum6 b c = _ := (if_neg (by omega)).trans (if_pos (by omega))
    refine AW_condT rfl ?_
    refine AW_seq ?_
    refine AW_region ?_
    refine AL_p (x_assign rfl rfl) ?_
    refine AL_nil ?_
    refine AW_ret ?_
    exact ⟨rn [], ⟨⟨⟨_, rfl, vle_int (by rw [hno]; first | done | rfl)⟩, trivial⟩, ⟨⟨_, rfl, by first | exact BLe.rf | exact ble_eq (by rw [hno]; first | done | rfl)⟩, trivial⟩, by repeat (first | exact trivial | refine ⟨⟨rfl, by first | (left; intro h; cases h) | (right; rfl), by first | exact (fun _ h => ⟨_, h⟩) | exact (fun _ _ => ⟨_, rfl⟩) | (intro _ h; cases h)⟩, ?_⟩), rfl⟩⟩
  try simp only [tdy] at h11
  have hno : dNum6 b c = _ := (if_neg (by omega)).trans (if_neg (by omega))
  have hd1 := dBelow_lt b (dBelow b c 8).2 (n := 1000000) (by decide)
  refine AW_condF rfl ?_
  refine AW_skip ?_
  refine AW_seq ?_
  refine AW_region ?_
  refine AL_p (x_move rfl rfl) ?_
  refine AL_p (x_call (ks := []) (L := [(200, some _)]) (L' := [(200, some _)]) rfl rfl rfl (below_c b (dBelow b c 8).2 hb 1000000) rfl AllV.rf (caught_of rfl) rfl rfl rfl ⟨rfl, trivial⟩ rfl) ?_
  refine AL_p (x_mul rfl rfl rfl (IntWalk.i64_in _ (by omega))) ?_
  refine AL_p (x_assign rfl rfl) ?_
  refine AL_nil ?_
  refine AW_ret ?_
  exact ⟨rn [], ⟨⟨⟨_, rfl, vle_int (by rw [hno]; first | done | rfl)⟩, trivial⟩, ⟨⟨_, rfl, by first | exact BLe.rf | exact ble_eq (by rw [hno]; first | done | rfl)⟩, trivial⟩, by repeat (first | exact trivial | refine ⟨⟨rfl, by first | (left; intro h; cases h) | (right; rfl), by first | exact (fun _ h => ⟨_, h⟩) | exact (fun _ _ => ⟨_, rfl⟩) | (intro _ h; cases h)⟩, ?_⟩), rfl⟩⟩
end Go.Proofs.Ytfdpigafekohgaa

/- The laws' own functions: GenE (printed by gen.py) -/
namespace Go.Proofs.Ytfdpigafekohgaa
open Go.RowKit
set_option linter.unusedVariables false
set_option maxRecDepth 100000

structure Actt where
  kind : Int
  a : Int
  b : Int
def actE : Enc Actt := isoE (pairE (intE .i64) (pairE (intE .i64) (pairE (intE .i64) unitE))) (fun x => (x.kind, x.a, x.b, ()))
theorem Act_rep {w : World} {cs : List Value} {x : Actt} {bs : List Nat} : actE.rep w cs x bs ↔ cs = [.int .i64 x.kind, .int .i64 x.a, .int .i64 x.b] ∧ (Lit.int .i64 x.kind).wf = true ∧ (Lit.int .i64 x.a).wf = true ∧ (Lit.int .i64 x.b).wf = true ∧ bs = [] := by
  constructor
  · rintro ⟨c0, r0, d0, q0, rfl, rfl, h0, c1, r1, d1, q1, rfl, rfl, h1, c2, r2, d2, q2, rfl, rfl, h2, rfl, rfl⟩
    obtain ⟨rfl, f0, rfl⟩ := h0
    obtain ⟨rfl, f1, rfl⟩ := h1
    obtain ⟨rfl, f2, rfl⟩ := h2
    exact ⟨by simp, f0, f1, f2, by simp⟩
  · rintro ⟨rfl, f0, f1, f2, hbs⟩
    obtain rfl := hbs.symm
    exact ⟨[.int .i64 x.kind], [.int .i64 x.a, .int .i64 x.b], [], [], rfl, by simp, ⟨rfl, f0, rfl⟩, ⟨[.int .i64 x.a], [.int .i64 x.b], [], [], rfl, by simp, ⟨rfl, f1, rfl⟩, ⟨[.int .i64 x.b], [], [], [], rfl, by simp, ⟨rfl, f2, rfl⟩, ⟨rfl, rfl⟩⟩⟩⟩
def actC (x : Actt) : List Cell := [.c (.int .i64 x.kind), .c (.int .i64 x.a), .c (.int .i64 x.b)]
instance : CellsOf actE actC := cellsIso (e := (pairE (intE .i64) (pairE (intE .i64) (pairE (intE .i64) unitE)))) (fun x : Actt => (x.kind, x.a, x.b, ()))
def smallAct (x : Actt) : Prop := True

structure Matcht where
  v : List (Int)
  m : List (Int)
def matchE : Enc Matcht := isoE (pairE (sliceE (intE .i64)) (pairE (sliceE (intE .i64)) unitE)) (fun x => (x.v, x.m, ()))
theorem Match_rep {w : World} {cs : List Value} {x : Matcht} {bs : List Nat} : matchE.rep w cs x bs ↔ ∃ (sa0 : Option Addr) (sn0 sc0 : Nat) (sb0 : List Nat) (sa1 : Option Addr) (sn1 sc1 : Nat) (sb1 : List Nat), cs = [.slice sa0 sn0 sc0, .slice sa1 sn1 sc1] ∧ SliceRep (intE .i64) w sa0 sn0 sc0 x.v sb0 ∧ SliceRep (intE .i64) w sa1 sn1 sc1 x.m sb1 ∧ bs = sb0 ++ sb1 := by
  constructor
  · rintro ⟨c0, r0, d0, q0, rfl, rfl, h0, c1, r1, d1, q1, rfl, rfl, h1, rfl, rfl⟩
    obtain ⟨va0, vn0, vc0, rfl, f0⟩ := h0
    obtain ⟨va1, vn1, vc1, rfl, f1⟩ := h1
    exact ⟨va0, vn0, vc0, _, va1, vn1, vc1, _, by simp, f0, f1, by simp⟩
  · rintro ⟨sa0, sn0, sc0, sb0, sa1, sn1, sc1, sb1, rfl, f0, f1, hbs⟩
    obtain rfl := hbs.symm
    exact ⟨[.slice sa0 sn0 sc0], [.slice sa1 sn1 sc1], sb0, sb1, rfl, by simp, ⟨sa0, sn0, sc0, rfl, f0⟩, ⟨[.slice sa1 sn1 sc1], [], sb1, [], rfl, by simp, ⟨sa1, sn1, sc1, rfl, f1⟩, ⟨rfl, rfl⟩⟩⟩
def matchC (x : Matcht) : List Cell := [.sl (intE .i64) x.v, .sl (intE .i64) x.m]
instance : CellsOf matchE matchC := cellsIso (e := (pairE (sliceE (intE .i64)) (pairE (sliceE (intE .i64)) unitE))) (fun x : Matcht => (x.v, x.m, ()))
def smallMatch (x : Matcht) : Prop := x.v.length ≤ 1048576 ∧ x.m.length ≤ 1048576

structure Headt where
  v : List (Int)
structure Msgt where
  kind : Int
  session : Int
  xid : Int
  epoch : Int
  prio : Int
  mat : Matcht
  acts : List (Actt)
  hand : Bool
  head : Headt
end Go.Proofs.Ytfdpigafekohgaa

/- The laws' own functions: GenC (printed by gen.py) -/
namespace Go.Proofs.Ytfdpigafekohgaa
open Go.RowKit
set_option linter.unusedVariables false
set_option maxRecDepth 100000

structure Namedt where
  name : ByteArray
  rel : Relt
structure Storet where
  rels : List (Namedt)
end Go.Proofs.Ytfdpigafekohgaa

/- Right stores and like stores, in plain words. -/
namespace Go.Proofs.Ytfdpigafekohgaa
open Go.RowKit
set_option linter.unusedVariables false

/-! A test at each place of a list. -/
def AllAt {n : Nat} (p : (k : Nat) → k < n → Bool) (k : Nat) : Prop := ∀ j (h : j < n), j < k → p j h = true
theorem AllAt.zero {n : Nat} {p : (k : Nat) → k < n → Bool} : AllAt p 0 := fun _ _ h => absurd h (by omega)
theorem AllAt.succ {n : Nat} {p : (k : Nat) → k < n → Bool} {k : Nat} (h : AllAt p k) (hk : k < n) (hp : p k hk = true) : AllAt p (k + 1) := fun j hj hjk => by
  rcases Nat.lt_or_ge j k with h1 | h1
  · exact h j hj h1
  · obtain rfl : j = k := by omega
    exact hp
def everyB {n : Nat} (p : (k : Nat) → k < n → Bool) : Bool := (List.range n).all fun k => if h : k < n then p k h else true
theorem everyB_get {n : Nat} {p : (k : Nat) → k < n → Bool} (h : everyB p = true) {j : Nat} (hj : j < n) : p j hj = true := by
  unfold everyB at h
  rw [List.all_eq_true] at h
  have := h j (by simpa using hj)
  rwa [dif_pos hj] at this
theorem AllAt.all {n : Nat} {p : (k : Nat) → k < n → Bool} {k : Nat} (h : AllAt p k) (hk : n ≤ k) : everyB p = true := by
  unfold everyB
  rw [List.all_eq_true]
  intro j hj
  have hj' : j < n := by simpa using hj
  rw [dif_pos hj']
  exact h j hj' (by omega)
theorem everyB_bad {n : Nat} {p : (k : Nat) → k < n → Bool} {k : Nat} (hk : k < n) (hp : p k hk = false) : everyB p = false := by
  cases h : everyB p
  · rfl
  · have := everyB_get h hk
    rw [hp] at this; cases this

def likeNamed (x y : Namedt) : Bool := x.name == y.name && likeRel x.rel y.rel
def LikeN (a b : List Namedt) (k : Nat) : Prop := ∀ j (h : j < a.length) (h' : j < b.length), j < k → likeNamed a[j] b[j] = true
theorem LikeN.zero {a b : List Namedt} : LikeN a b 0 := fun _ _ _ h => absurd h (by omega)
theorem LikeN.succ {a b : List Namedt} {k : Nat} (h : LikeN a b k) (hk : k < a.length) (hk' : k < b.length) (hs : likeNamed a[k] b[k] = true) : LikeN a b (k + 1) := fun j hj hj' hjk => by
  rcases Nat.lt_or_ge j k with h1 | h1
  · exact h j hj hj' h1
  · obtain rfl : j = k := by omega
    exact hs
end Go.Proofs.Ytfdpigafekohgaa

/- Messages in plain words. -/
namespace Go.Proofs.Ytfdpigafekohgaa
open Go.RowKit
set_option linter.unusedVariables false

def bitsOf (f : Int) : Int := if f = 0 ∨ f = 7 then 8 else if f = 1 ∨ f = 2 then 48 else if f = 3 ∨ f = 4 then 16 else if f = 5 ∨ f = 6 then 32 else 0
theorem bitsOf_in {f : Int} (h0 : 0 ≤ f) (h1 : f < 8) : f = 0 ∨ f = 1 ∨ f = 2 ∨ f = 3 ∨ f = 4 ∨ f = 5 ∨ f = 6 ∨ f = 7 := by omega
theorem bitsOf_out {f : Int} (h : f < 0 ∨ 8 ≤ f) : bitsOf f = 0 := by unfold bitsOf; omega
theorem bitsOf_list {f : Int} {k : Nat} (h0 : 0 ≤ f) (h1 : f < 8) (hk : k = f.toNat) (hl : k < [(8 : Int), 48, 48, 16, 16, 32, 32, 8].length) : [(8 : Int), 48, 48, 16, 16, 32, 32, 8][k] = bitsOf f := by
  subst hk
  rcases bitsOf_in h0 h1 with rfl | rfl | rfl | rfl | rfl | rfl | rfl | rfl <;> rfl
theorem bitsOf_cases (f : Int) : bitsOf f = 0 ∨ bitsOf f = 8 ∨ bitsOf f = 16 ∨ bitsOf f = 32 ∨ bitsOf f = 48 := by unfold bitsOf; omega
theorem bitsOf_le (f : Int) : 0 ≤ bitsOf f ∧ bitsOf f ≤ 48 := by rcases bitsOf_cases f with h | h | h | h | h <;> omega
def topOf (f : Int) : Int := 2 ^ (bitsOf f).toNat
theorem topOf_shl (f : Int) : IntKind.i64.wrap (1 * 2 ^ (min (bitsOf f).toNat IntKind.i64.bits)) = topOf f := by
  unfold topOf
  rcases bitsOf_cases f with h | h | h | h | h <;> rw [h] <;> decide
theorem topOf_bound (f : Int) : 1 ≤ topOf f ∧ topOf f ≤ 281474976710656 := by
  unfold topOf
  rcases bitsOf_cases f with h | h | h | h | h <;> rw [h] <;> decide
theorem bitsOf_quo (f : Int) : IntKind.i64.wrap ((bitsOf f).tdiv 8) = bitsOf f / 8 := by
  rcases bitsOf_cases f with h | h | h | h | h <;> rw [h] <;> decide
theorem bitsOf_pos {f : Int} (h0 : 0 ≤ f) (h1 : f < 8) : 0 < bitsOf f := by
  rcases bitsOf_in h0 h1 with rfl | rfl | rfl | rfl | rfl | rfl | rfl | rfl <;> decide
theorem topOf_pow {f : Int} (h0 : 0 ≤ f) (h1 : f < 8) : (256 : Int) ^ (bitsOf f / 8).toNat = topOf f := by
  rcases bitsOf_in h0 h1 with rfl | rfl | rfl | rfl | rfl | rfl | rfl | rfl <;> decide
def fitsB (f v : Int) : Bool := decide (0 < bitsOf f ∧ 0 ≤ v ∧ v ≤ topOf f - 1)
theorem fitsB_le {f v : Int} (h : fitsB f v = true) : 0 ≤ v ∧ v ≤ topOf f - 1 := by
  unfold fitsB at h; rw [decide_eq_true_eq] at h; exact h.2
def numOkB (n size : Int) : Bool := decide (1 ≤ size ∧ size ≤ 6 ∧ 0 ≤ n ∧ n < (256 : Int) ^ size.toNat)
theorem pow256_bound {k : Nat} (h : k ≤ 6) : 1 ≤ (256 : Int) ^ k ∧ (256 : Int) ^ k ≤ 281474976710656 := by
  have : k = 0 ∨ k = 1 ∨ k = 2 ∨ k = 3 ∨ k = 4 ∨ k = 5 ∨ k = 6 := by omega
  rcases this with rfl | rfl | rfl | rfl | rfl | rfl | rfl <;> decide
theorem fitsB_num {f v : Int} (h0 : 0 ≤ f) (h1 : f < 8) : numOkB v (bitsOf f / 8) = fitsB f v := by
  have hp := bitsOf_pos h0 h1
  have hb : 1 ≤ bitsOf f / 8 ∧ bitsOf f / 8 ≤ 6 := by rcases bitsOf_cases f with h | h | h | h | h <;> omega
  unfold numOkB fitsB
  rw [topOf_pow h0 h1]
  congr 1
  apply propext
  constructor
  · rintro ⟨_, _, h3, h4⟩; exact ⟨hp, h3, by omega⟩
  · rintro ⟨_, h3, h4⟩; exact ⟨hb.1, hb.2, h3, by omega⟩
theorem fitsB_out {f v : Int} (h : f < 0 ∨ 8 ≤ f) : fitsB f v = false := by
  unfold fitsB; rw [bitsOf_out h]; simp
def eight (l : List Int) : Bool := everyB (n := l.length) (fun k h => fitsB (k : Int) l[k]) && decide (l.length = 8)
theorem eight_bad {l : List Int} {k : Nat} (hk : k < l.length) (h : fitsB (k : Int) l[k] = false) : eight l = false := by
  simp [eight, everyB_bad (p := fun k h => fitsB (k : Int) l[k]) hk h]
theorem eight_len {l : List Int} (h : ¬ (l.length : Int) = 8) : eight l = false := by
  have : ¬ l.length = 8 := by omega
  simp [eight, this]
theorem eight_good {l : List Int} {k : Nat} (h : AllAt (fun k (hk : k < l.length) => fitsB (k : Int) l[k]) k) (hk : l.length ≤ k) (hl : (l.length : Int) = 8) : eight l = true := by
  have : l.length = 8 := by omega
  simp [eight, AllAt.all h hk, this]
theorem eight_get {l : List Int} (h : eight l = true) {k : Nat} (hk : k < l.length) : fitsB (k : Int) l[k] = true := by
  simp only [eight, Bool.and_eq_true] at h
  exact everyB_get (p := fun k (h : k < l.length) => fitsB (k : Int) l[k]) h.1 hk
theorem eight_8 {l : List Int} (h : eight l = true) : l.length = 8 := by
  simp only [eight, Bool.and_eq_true, decide_eq_true_eq] at h; exact h.2
def inside (v m : List Int) (k : Nat) (h : k < v.length) : Bool := if h' : k < m.length then decide (0 ≤ v[k] ∧ bitAndNot v[k] m[k] = 0) else false
def matchB (m : Matcht) : Bool := decide (m.v.length = 8) && (eight m.m && everyB (inside m.v m.m))
theorem matchB_v {m : Matcht} (h : ¬ (m.v.length : Int) = 8) : matchB m = false := by
  have : ¬ m.v.length = 8 := by omega
  simp [matchB, this]
theorem matchB_m {m : Matcht} (h : eight m.m = false) : matchB m = false := by simp [matchB, h]
theorem matchB_bad {m : Matcht} {k : Nat} (hk : k < m.v.length) (h : inside m.v m.m k hk = false) : matchB m = false := by simp [matchB, everyB_bad hk h]
theorem matchB_good {m : Matcht} {k : Nat} (hl : (m.v.length : Int) = 8) (h1 : eight m.m = true) (h : AllAt (inside m.v m.m) k) (hk : m.v.length ≤ k) : matchB m = true := by
  have : m.v.length = 8 := by omega
  simp only [matchB, h1, AllAt.all h hk, this]; rfl
theorem inside_neg {v m : List Int} {k : Nat} (hk : k < v.length) (hm : k < m.length) (h : v[k] < 0) : inside v m k hk = false := by
  simp only [inside, hm, dif_pos, decide_eq_false_iff_not]; omega
theorem inside_bit {v m : List Int} {k : Nat} (hk : k < v.length) (hm : k < m.length) (h : ¬ bitAndNot v[k] m[k] = 0) : inside v m k hk = false := by
  simp only [inside, hm, dif_pos, decide_eq_false_iff_not]; exact fun q => h q.2
theorem inside_yes {v m : List Int} {k : Nat} (hk : k < v.length) (hm : k < m.length) (h : 0 ≤ v[k]) (h2 : bitAndNot v[k] m[k] = 0) : inside v m k hk = true := by
  simp only [inside, hm, dif_pos, decide_eq_true_eq]; exact ⟨h, h2⟩
def actB (a : Actt) : Bool := decide ((a.kind = 1 ∧ 1 ≤ a.a ∧ a.a ≤ 255 ∧ a.b = 0) ∨ (a.kind = 3 ∧ (a.a = 1 ∨ a.a = 2) ∧ 0 ≤ a.b ∧ a.b ≤ 281474976710655) ∨ ((a.kind = 2 ∨ a.kind = 4 ∨ a.kind = 5) ∧ a.a = 0 ∧ a.b = 0))
def actsB (l : List Actt) : Bool := everyB (n := l.length) (fun k h => actB l[k]) && decide (l.length ≤ 12)
theorem actsB_len {l : List Actt} (h : 12 < (l.length : Int)) : actsB l = false := by
  have : ¬ l.length ≤ 12 := by omega
  simp [actsB, this]
theorem actsB_bad {l : List Actt} {k : Nat} (hk : k < l.length) (h : actB l[k] = false) : actsB l = false := by
  simp [actsB, everyB_bad (p := fun k h => actB l[k]) hk h]
theorem actsB_good {l : List Actt} {k : Nat} (h : AllAt (fun k (hk : k < l.length) => actB l[k]) k) (hk : l.length ≤ k) (hl : (l.length : Int) ≤ 12) : actsB l = true := by
  have : l.length ≤ 12 := by omega
  simp [actsB, AllAt.all h hk, this]
def entryB (ep pr hits : Int) (m : Matcht) (l : List Actt) : Bool := decide (0 ≤ ep ∧ ep ≤ 1000000000 ∧ 0 ≤ pr ∧ pr ≤ 65535 ∧ 0 ≤ hits ∧ hits ≤ 1000000000) && (matchB m && actsB l)
end Go.Proofs.Ytfdpigafekohgaa

/- Relations (printed by walk.py) -/
namespace Go.Proofs.Ytfdpigafekohgaa
open Go.RowKit
set_option linter.unusedVariables false
set_option linter.unusedSimpArgs false
set_option maxRecDepth 100000


set_option maxHeartbeats 4000000 in
theorem upToI_c (n m : Int) : AC Try.prog 68 [.one (.c (.int .i64 n)), .one (.c (.int .i64 m))] [] (.one (.c (.bool (upToB n m)))) [] := by
  refine AC_body1 Try.func68 rfl rfl Try.ntmps68 rfl Try.results68 ?_
  refine AW_seq ?_
  refine AW_region ?_
  refine AL_p (x_assign rfl rfl) ?_
  refine AL_nil ?_
  refine AW_seq ?_
  refine AW_region ?_
  refine AL_p (x_move rfl rfl) ?_
  refine AL_b (x_geq rfl rfl rfl) (fun b6 h6 => ?_)
  refine AL_p (x_move rfl rfl) ?_
  cases b6
  · try simp only [tdy] at h6
    refine AL_o rfl rfl rfl rfl ?_
    refine AL_o rfl rfl rfl rfl ?_
    refine AL_o rfl rfl rfl rfl ?_
    refine AL_p (x_pickF rfl rfl rfl) ?_
    refine AL_p (x_assign rfl rfl) ?_
    refine AL_nil ?_
    refine AW_ret ?_
    exact ⟨rn [], ⟨⟨⟨_, rfl, vle_bool (by first | exact (decide_eq_true (by omega)).symm | exact (decide_eq_false (by omega)).symm)⟩, trivial⟩, trivial, trivial, rfl⟩⟩
  try simp only [tdy] at h6
  refine AL_g rfl rfl (x_move rfl rfl) ?_
  refine AL_g rfl rfl (x_move rfl rfl) ?_
  refine AL_gb rfl rfl (x_leq rfl rfl rfl) (fun b10 h10 => ?_)
  refine AL_p (x_pickT rfl rfl rfl) ?_
  refine AL_p (x_assign rfl rfl) ?_
  refine AL_nil ?_
  refine AW_ret ?_
  cases b10
  rotate_left
  · try simp only [tdy] at h10
    exact ⟨rn [], ⟨⟨⟨_, rfl, vle_bool (by first | exact (decide_eq_true (by omega)).symm | exact (decide_eq_false (by omega)).symm)⟩, trivial⟩, trivial, trivial, rfl⟩⟩
  try simp only [tdy] at h10
  exact ⟨rn [], ⟨⟨⟨_, rfl, vle_bool (by first | exact (decide_eq_true (by omega)).symm | exact (decide_eq_false (by omega)).symm)⟩, trivial⟩, trivial, trivial, rfl⟩⟩


end Go.Proofs.Ytfdpigafekohgaa

/- Lemmas of the walks, part 3. -/
import Derived.Test.YtfdpigafekohgaaMr2
import Derived.Lib.AppendStr
import Derived.Lib.ConvBytes
import Derived.Lib.BufferRead
import Derived.Laws.CopyRow
import Derived.Laws.Small
/- Messages in plain words. -/
namespace Go.Proofs.Ytfdpigafekohgaa
open Go.RowKit
set_option linter.unusedVariables false

def bitsOf (f : Int) : Int := if f = 0 ∨ f = 7 then 8 else if f = 1 ∨ f = 2 then 48 else if f = 3 ∨ f = 4 then 16 else if f = 5 ∨ f = 6 then 32 else 0
theorem bitsOf_in {f : Int} (h0 : 0 ≤ f) (h1 : f < 8) : f = 0 ∨ f = 1 ∨ f = 2 ∨ f = 3 ∨ f = 4 ∨ f = 5 ∨ f = 6 ∨ f = 7 := by omega
theorem bitsOf_out {f : Int} (h : f < 0 ∨ 8 ≤ f) : bitsOf f = 0 := by unfold bitsOf; omega
theorem bitsOf_list {f : Int} {k : Nat} (h0 : 0 ≤ f) (h1 : f < 8) (hk : k = f.toNat) (hl : k < [(8 : Int), 48, 48, 16, 16, 32, 32, 8].length) : [(8 : Int), 48, 48, 16, 16, 32, 32, 8][k] = bitsOf f := by
  subst hk
  rcases bitsOf_in h0 h1 with rfl | rfl | rfl | rfl | rfl | rfl | rfl | rfl <;> rfl
theorem bitsOf_cases (f : Int) : bitsOf f = 0 ∨ bitsOf f = 8 ∨ bitsOf f = 16 ∨ bitsOf f = 32 ∨ bitsOf f = 48 := by unfold bitsOf; omega
theorem bitsOf_le (f : Int) : 0 ≤ bitsOf f ∧ bitsOf f ≤ 48 := by rcases bitsOf_cases f with h | h | h | h | h <;> omega
def topOf (f : Int) : Int := 2 ^ (bitsOf f).toNat
theorem topOf_shl (f : Int) : IntKind.i64.wrap (1 * 2 ^ (min (bitsOf f).toNat IntKind.i64.bits)) = topOf f := by
  unfold topOf
  rcases bitsOf_cases f with h | h | h | h | h <;> rw [h] <;> decide
theorem topOf_bound (f : Int) : 1 ≤ topOf f ∧ topOf f ≤ 281474976710656 := by
  unfold topOf
  rcases bitsOf_cases f with h | h | h | h | h <;> rw [h] <;> decide
theorem bitsOf_quo (f : Int) : IntKind.i64.wrap ((bitsOf f).tdiv 8) = bitsOf f / 8 := by
  rcases bitsOf_cases f with h | h | h | h | h <;> rw [h] <;> decide
theorem bitsOf_pos {f : Int} (h0 : 0 ≤ f) (h1 : f < 8) : 0 < bitsOf f := by
  rcases bitsOf_in h0 h1 with rfl | rfl | rfl | rfl | rfl | rfl | rfl | rfl <;> decide
theorem topOf_pow {f : Int} (h0 : 0 ≤ f) (h1 : f < 8) : (256 : Int) ^ (bitsOf f / 8).toNat = topOf f := by
  rcases bitsOf_in h0 h1 with rfl | rfl | rfl | rfl | rfl | rfl | rfl | rfl <;> decide
def fitsB (f v : Int) : Bool := decide (0 < bitsOf f ∧ 0 ≤ v ∧ v ≤ topOf f - 1)
theorem fitsB_le {f v : Int} (h : fitsB f v = true) : 0 ≤ v ∧ v ≤ topOf f - 1 := by
  unfold fitsB at h; rw [decide_eq_true_eq] at h; exact h.2
def numOkB (n size : Int) : Bool := decide (1 ≤ size ∧ size ≤ 6 ∧ 0 ≤ n ∧ n < (256 : Int) ^ size.toNat)
theorem pow256_bound {k : Nat} (h : k ≤ 6) : 1 ≤ (256 : Int) ^ k ∧ (256 : Int) ^ k ≤ 281474976710656 := by
  have : k = 0 ∨ k = 1 ∨ k = 2 ∨ k = 3 ∨ k = 4 ∨ k = 5 ∨ k = 6 := by omega
  rcases this with rfl | rfl | rfl | rfl | rfl | rfl | rfl <;> decide
theorem fitsB_num {f v : Int} (h0 : 0 ≤ f) (h1 : f < 8) : numOkB v (bitsOf f / 8) = fitsB f v := by
  have hp := bitsOf_pos h0 h1
  have hb : 1 ≤ bitsOf f / 8 ∧ bitsOf f / 8 ≤ 6 := by rcases bitsOf_cases f with h | h | h | h | h <;> omega
  unfold numOkB fitsB
  rw [topOf_pow h0 h1]
  congr 1
  apply propext
  constructor
  · rintro ⟨_, _, h3, h4⟩; exact ⟨hp, h3, by omega⟩
  · rintro ⟨_, h3, h4⟩; exact ⟨hb.1, hb.2, h3, by omega⟩
theorem fitsB_out {f v : Int} (h : f < 0 ∨ 8 ≤ f) : fitsB f v = false := by
  unfold fitsB; rw [bitsOf_out h]; simp
def eight (l : List Int) : Bool := everyB (n := l.length) (fun k h => fitsB (k : Int) l[k]) && decide (l.length = 8)
theorem eight_bad {l : List Int} {k : Nat} (hk : k < l.length) (h : fitsB (k : Int) l[k] = false) : eight l = false := by
  simp [eight, everyB_bad (p := fun k h => fitsB (k : Int) l[k]) hk h]
theorem eight_len {l : List Int} (h : ¬ (l.length : Int) = 8) : eight l = false := by
  have : ¬ l.length = 8 := by omega
  simp [eight, this]
theorem eight_good {l : List Int} {k : Nat} (h : AllAt (fun k (hk : k < l.length) => fitsB (k : Int) l[k]) k) (hk : l.length ≤ k) (hl : (l.length : Int) = 8) : eight l = true := by
  have : l.length = 8 := by omega
  simp [eight, AllAt.all h hk, this]
theorem eight_get {l : List Int} (h : eight l = true) {k : Nat} (hk : k < l.length) : fitsB (k : Int) l[k] = true := by
  simp only [eight, Bool.and_eq_true] at h
  exact everyB_get (p := fun k (h : k < l.length) => fitsB (k : Int) l[k]) h.1 hk
theorem eight_8 {l : List Int} (h : eight l = true) : l.length = 8 := by
  simp only [eight, Bool.and_eq_true, decide_eq_true_eq] at h; exact h.2
def inside (v m : List Int) (k : Nat) (h : k < v.length) : Bool := if h' : k < m.length then decide (0 ≤ v[k] ∧ bitAndNot v[k] m[k] = 0) else false
def matchB (m : Matcht) : Bool := decide (m.v.length = 8) && (eight m.m && everyB (inside m.v m.m))
theorem matchB_v {m : Matcht} (h : ¬ (m.v.length : Int) = 8) : matchB m = false := by
  have : ¬ m.v.length = 8 := by omega
  simp [matchB, this]
theorem matchB_m {m : Matcht} (h : eight m.m = false) : matchB m = false := by simp [matchB, h]
theorem matchB_bad {m : Matcht} {k : Nat} (hk : k < m.v.length) (h : inside m.v m.m k hk = false) : matchB m = false := by simp [matchB, everyB_bad hk h]
theorem matchB_good {m : Matcht} {k : Nat} (hl : (m.v.length : Int) = 8) (h1 : eight m.m = true) (h : AllAt (inside m.v m.m) k) (hk : m.v.length ≤ k) : matchB m = true := by
  have : m.v.length = 8 := by omega
  simp only [matchB, h1, AllAt.all h hk, this]; rfl
theorem inside_neg {v m : List Int} {k : Nat} (hk : k < v.length) (hm : k < m.length) (h : v[k] < 0) : inside v m k hk = false := by
  simp only [inside, hm, dif_pos, decide_eq_false_iff_not]; omega
theorem inside_bit {v m : List Int} {k : Nat} (hk : k < v.length) (hm : k < m.length) (h : ¬ bitAndNot v[k] m[k] = 0) : inside v m k hk = false := by
  simp only [inside, hm, dif_pos, decide_eq_false_iff_not]; exact fun q => h q.2
theorem inside_yes {v m : List Int} {k : Nat} (hk : k < v.length) (hm : k < m.length) (h : 0 ≤ v[k]) (h2 : bitAndNot v[k] m[k] = 0) : inside v m k hk = true := by
  simp only [inside, hm, dif_pos, decide_eq_true_eq]; exact ⟨h, h2⟩
def actB (a : Actt) : Bool := decide ((a.kind = 1 ∧ 1 ≤ a.a ∧ a.a ≤ 255 ∧ a.b = 0) ∨ (a.kind = 3 ∧ (a.a = 1 ∨ a.a = 2) ∧ 0 ≤ a.b ∧ a.b ≤ 281474976710655) ∨ ((a.kind = 2 ∨ a.kind = 4 ∨ a.kind = 5) ∧ a.a = 0 ∧ a.b = 0))
def actsB (l : List Actt) : Bool := everyB (n := l.length) (fun k h => actB l[k]) && decide (l.length ≤ 12)
theorem actsB_len {l : List Actt} (h : 12 < (l.length : Int)) : actsB l = false := by
  have : ¬ l.length ≤ 12 := by omega
  simp [actsB, this]
theorem actsB_bad {l : List Actt} {k : Nat} (hk : k < l.length) (h : actB l[k] = false) : actsB l = false := by
  simp [actsB, everyB_bad (p := fun k h => actB l[k]) hk h]
theorem actsB_good {l : List Actt} {k : Nat} (h : AllAt (fun k (hk : k < l.length) => actB l[k]) k) (hk : l.length ≤ k) (hl : (l.length : Int) ≤ 12) : actsB l = true := by
  have : l.length ≤ 12 := by omega
  simp [actsB, AllAt.all h hk, this]
def entryB (ep pr hits : Int) (m : Matcht) (l : List Actt) : Bool := decide (0 ≤ ep ∧ ep ≤ 1000000000 ∧ 0 ≤ pr ∧ pr ≤ 65535 ∧ 0 ≤ hits ∧ hits ≤ 1000000000) && (matchB m && actsB l)
def noAddB (m : Msgt) : Bool := decide (m.prio = 0 ∧ m.mat.v.length = 0 ∧ m.mat.m.length = 0 ∧ m.acts.length = 0)
def noNoteB (m : Msgt) : Bool := !m.hand && decide (m.head.v.length = 0)
def msgB (m : Msgt) : Bool := decide (0 ≤ m.session ∧ m.session ≤ 1000000000 ∧ 0 ≤ m.xid ∧ m.xid ≤ 4294967295) &&
  (if m.kind = 1 ∨ m.kind = 4 ∨ m.kind = 6 then decide (m.epoch = 0) && (noAddB m && noNoteB m)
  else if m.kind = 2 then entryB m.epoch m.prio 0 m.mat m.acts && noNoteB m
  else if m.kind = 3 then decide (0 ≤ m.epoch ∧ m.epoch ≤ 1000000000) && (noAddB m && noNoteB m)
  else if m.kind = 5 then decide (m.epoch = 0) && (noAddB m && eight m.head.v)
  else false)
end Go.Proofs.Ytfdpigafekohgaa

/- Texts and bytes in the abstract walk: the bytes of a text, appended. -/
namespace Go.Proofs.Ytfdpigafekohgaa
open Go.RowKit
set_option linter.unusedVariables false

theorem u8_fine (b : UInt8) : (Lit.int .u8 (b.toNat : Int)).wf = true := by
  have := b.toNat_lt
  simp only [Lit.wf, Bool.and_eq_true, decide_eq_true_eq]
  have h1 : IntKind.u8.min = 0 := rfl
  have h2 : IntKind.u8.max = 255 := rfl
  rw [h1, h2]; omega
theorem FR.bytes {w : World} : ∀ (l : List UInt8), FR w (l.map fun b => Value.int .u8 b.toNat) ((l.map fun b => (b.toNat : Int)).flatMap fun n => [Cell.c (.int .u8 n)]) []
  | [] => rfl
  | b :: l => ⟨[], [], rfl, ⟨rfl, u8_fine b, rfl⟩, FR.bytes l⟩
section ops
variable {P : Program} {N : Nat} {s : St} {d : Nat} {ty : TypeId} {pos : String} {after : Array Edge} {gd : Option (Nat × Bool)}
/-- The type of slices of bytes and that of texts. -/
def byteT (P : Program) (T U E : TypeId) : Bool :=
  match P.underlying T, P.underlying U, P.underlying E, P.info? E with
  | some (.slice E'), some .string, some (.int .u8), some i => Nat.beq E' E && Nat.beq i.size 1 && Nat.beq i.bytes 1 && (match i.zero with | some (.int .u8 z) => (match z with | .ofNat 0 => true | _ => false) | _ => false)
  | _, _, _, _ => false
theorem byteT_spec {T U E : TypeId} (h : byteT P T U E = true) : P.underlying T = some (.slice E) ∧ P.underlying U = some .string ∧ P.underlying E = some (.int .u8) ∧ ∃ i, P.info? E = some i ∧ i.size = 1 ∧ i.bytes = 1 ∧ i.zero = some (.int .u8 0) := by
  unfold byteT at h
  split at h
  · rename_i E' i h1 h2 h3 h4
    simp only [Bool.and_eq_true] at h
    obtain ⟨⟨⟨e1, e2⟩, e3⟩, e4⟩ := h
    obtain rfl := Nat.eq_of_beq_eq_true e1
    refine ⟨h1, h2, h3, i, h4, Nat.eq_of_beq_eq_true e2, Nat.eq_of_beq_eq_true e3, ?_⟩
    split at e4
    · rename_i z hz
      split at e4
      · rw [hz]; rfl
      · cases e4
    · cases e4
  · cases h
end ops
end Go.Proofs.Ytfdpigafekohgaa

/- A contract that takes arrays and leaves others, under other numbers. -/
namespace Go.Proofs.Ytfdpigafekohgaa
open Go.RowKit
set_option linter.unusedVariables false

theorem all2_unren {r : Nat → Nat} {l L : Locs} {g : Gh} {w : World} (hL : LeL r l L) : ∀ {vs : List Value} {xs : List AVal}, All2 (VR1 g l w) vs (xs.map (AVal.ren1 r)) → All2 (VR1 (g.ren r) L w) vs xs
  | [], [], _ => trivial
  | v :: vs, x :: xs, h => ⟨VR1.unren hL h.1, all2_unren hL h.2⟩
  | [], _ :: _, h => by cases h
  | _ :: _, [], h => by cases h
/-- A contract that takes the blocks L: what becomes of them is not told. -/
structure AT (P : Program) (f : FuncId) (args : List AVal) (L : Locs) (res : AVal) (L' : Locs) : Prop where
  fn : Callable P f
  run : ∀ (g : Gh) (w : World) (cargs : Array Value), MemR g L w → All2 (VR1 g L w) cargs.toList args →
    Calls P f cargs w fun e w' => ∃ v g', e = .returned v ∧ MemR g' L' w' ∧ VR g' L' w' v res ∧ Step [] g L w g' L' w'
section body
variable {P : Program} {N : Nat} {f : FuncId} {fn : Func} {c : Code} {args : List AVal} {L L' : Locs}
theorem AT_of {res : AVal} {T : Tmps} (hf : P.funcs[f]? = some fn) (hb : fn.body = some c) (hn : (fn.name == "runtime.NumGoroutine") = false) (hN : fn.ntmps = N) (hA : Nat.ble args.length N = true)
    (hr : ∀ (g : Gh) (a : Act) (w : World), Rep N g ⟨T, L'⟩ a w → ∃ v, (results fn a.tmps).run P w = .ok v w ∧ VR g L' w v res)
    (h : AW P N [] c (RetS [] T L') (RetQ [] T L') ⟨args0 args 0, L⟩) : AT P f args L res L' := by
  refine ⟨⟨fn, c, hf, hb, hn⟩, fun g w cargs m ha => ?_⟩
  subst hN
  have R := entry_rep m ha (Nat.le_of_ble_eq_true hA)
  refine calls_of_wp hf hb (Go.wp_mono (h g _ w R) ?_)
  rintro e a1 w1 ⟨g1, s1, R1, hs, hR⟩
  have fin : RetS [] T L' s1 → a1.defers = [] ∧ ∃ v, (results fn a1.tmps).run P w1 = .ok v w1 ∧ ∃ v' g', Ending.returned v = .returned v' ∧ MemR g' L' w1 ∧ VR g' L' w1 v' res ∧ Step [] g L w g' L' w1 := by
    rintro ⟨r, hle⟩
    have R2 := R1.le hle
    obtain ⟨v, h1, h2⟩ := hr _ a1 w1 R2
    exact ⟨R1.defers, v, h1, v, _, rfl, R2.mem, h2, hs.trans m R1.mem (Step.unren hle.l hle.k)⟩
  cases e with
  | normal => exact fin hR
  | ret => exact fin hR
  | exit id => exact hR
  | goto l => exact hR
  | panic ch => exact hR.elim
  | outgrown => exact hR.elim
theorem AT_body1 {r : Nat} {x : AVal} (hf : P.funcs[f]? = some fn) (hb : fn.body = some c) (hn : (fn.name == "runtime.NumGoroutine") = false) (hN : fn.ntmps = N) (hA : Nat.ble args.length N = true) (hr : fn.results = #[.tmp r])
    (h : AW P N [] c (RetS [] [(r, x)] L') (RetQ [] [(r, x)] L') ⟨args0 args 0, L⟩) : AT P f args L x L' :=
  AT_of hf hb hn hN hA (fun g a w R => ⟨_, results_tmp hr _ _ _, R.tmp r x lk_cons_self⟩) h
end body
/-- The lent blocks l are all gone behind the call. -/
theorem AT.lend {P : Program} {f : FuncId} {args : List AVal} {L L' l l' : Locs} {res' : AVal} (r s : Nat → Nat) (h : AT P f args L (res'.ren s) L') (hL : LeL r l L) (hi : injL r (keys L) = true) (hL' : LeL s L' l') (hi' : injL s (keys l') = true)
    (hg : ∀ k ∈ keys l, lk l' k = some none) (hb : ∀ k cs, lkl l k ≠ some (.box cs)) : AC P f (args.map (AVal.ren1 r)) l res' l' :=
  ⟨h.fn, fun g w cargs m ha => (h.run (g.ren r) w cargs (m.unren hL hi) (all2_unren hL ha)).mono (by
    rintro e w' ⟨v, g1, rfl, m1, hv, hs⟩
    have m0 := m.unren hL hi
    have A : Step [] g l w (g.ren r) L w := Step.unren hL trivial
    have B : Step [] (g.ren r) L w g1 L' w' := hs
    have C : Step [] g1 L' w' (g1.ren s) l' w' := Step.unren hL' trivial
    have T := (A.trans m m0 B).trans m m1 C
    refine ⟨v, g1.ren s, rfl, m1.unren hL' hi', VR.unren hL' hv, { T with base := fun k hk hn => ?_ }⟩
    have h1 := hg k hk
    have h2 : lkl l' k = none := by unfold lkl; rw [h1]
    exact ⟨by rw [h1]; simp, okK.gone h2, fun cs hc => absurd hc (hb k cs)⟩)⟩
/-- One array is taken, one is left. -/
theorem AT.lend1 {P : Program} {f : FuncId} {rest : List AVal} {α β : Type} {T U : TypeId} {e : Enc α} {e' : Enc β} {xs : List α} {ys : List β} {d d' : Bool}
    (h : AT P f (.one (.own 0) :: rest) [(0, some (.arr T e xs d))] (.one (.own 1)) [(1, some (.arr U e' ys d'))]) (a c : Nat) (hac : Nat.beq a c = false) (hrest : ∀ r, rest.map (AVal.ren1 r) = rest) :
    AC P f (.one (.own a) :: rest) [(a, some (.arr T e xs d))] (.one (.own c)) [(a, none), (c, some (.arr U e' ys d'))] := by
  have hne : a ≠ c := fun h => by rw [h, Nat.beq_refl] at hac; cases hac
  have hs : (fun k => bif Nat.beq k a then 0 else 1) c = 1 := by
    show (bif Nat.beq c a then 0 else 1) = 1
    have : Nat.beq c a = false := by
      cases e : Nat.beq c a
      · rfl
      · exact absurd (Nat.eq_of_beq_eq_true e).symm hne
    rw [this]; rfl
  have := AT.lend (res' := .one (.own c)) (l := [(a, some (.arr T e xs d))]) (l' := [(a, none), (c, some (.arr U e' ys d'))]) (fun _ => a) (fun k => bif Nat.beq k a then 0 else 1) (L := [(0, some (.arr T e xs d))]) (L' := [(1, some (.arr U e' ys d'))])
    (by show AT P f _ _ (.one (.own _)) _; rw [hs]; exact h) ⟨⟨.arr T e xs d, by simp [lkl, lk], (BLe.rf : BLe (.arr T e xs d) (.arr T e xs d))⟩, trivial⟩ (by simp [injL, keys]) ⟨⟨_, by rw [hs]; rfl, BLe.rf⟩, trivial⟩ (by
      have h2 : Nat.beq c a = false := by
        cases e : Nat.beq c a
        · rfl
        · exact absurd (Nat.eq_of_beq_eq_true e).symm hne
      simp [injL, keys, h2]
      rfl) (fun k hk => by simp [keys] at hk; subst hk; simp [lk]) (fun k cs hc => by
        cases hq : Nat.beq a k <;> simp [lkl, lk, hq] at hc)
  rw [List.map_cons, hrest] at this
  exact this
end Go.Proofs.Ytfdpigafekohgaa

/- A delta that fits a store, in plain words. -/
namespace Go.Proofs.Ytfdpigafekohgaa
open Go.RowKit
set_option linter.unusedVariables false

section
variable {s : Storet} {l : List Changet} {k : Nat} (hk : k < l.length)
end
end Go.Proofs.Ytfdpigafekohgaa

/- The laws' marks: MarkA (printed by genmark.py) -/
namespace Go.Proofs.Ytfdpigafekohgaa
open Go.RowKit
set_option linter.unusedVariables false
set_option linter.unusedSimpArgs false
set_option maxRecDepth 100000

end Go.Proofs.Ytfdpigafekohgaa

/- The laws' marks: MarkB (printed by genmark.py) -/
namespace Go.Proofs.Ytfdpigafekohgaa
open Go.RowKit
set_option linter.unusedVariables false
set_option linter.unusedSimpArgs false
set_option maxRecDepth 100000

end Go.Proofs.Ytfdpigafekohgaa

/- The laws' marks: MarkC (printed by genmark.py) -/
namespace Go.Proofs.Ytfdpigafekohgaa
open Go.RowKit
set_option linter.unusedVariables false
set_option linter.unusedSimpArgs false
set_option maxRecDepth 100000

end Go.Proofs.Ytfdpigafekohgaa

/- Plain laws on relations that are copied, marked, counted. -/
namespace Go.Proofs.Ytfdpigafekohgaa
open Go.RowKit
set_option linter.unusedVariables false

end Go.Proofs.Ytfdpigafekohgaa

/- Copies of relations, deltas turned back, deltas between stores, in plain words. -/
namespace Go.Proofs.Ytfdpigafekohgaa
open Go.RowKit
set_option linter.unusedVariables false

end Go.Proofs.Ytfdpigafekohgaa

/- RelPick, RelDrop in plain words. -/
namespace Go.Proofs.Ytfdpigafekohgaa
open Go.RowKit
set_option linter.unusedVariables false

theorem GoodTo.len {rows : List (List Val)} {ar : Int} {k j : Nat} (h : GoodTo rows ar k) (hj : j < rows.length) (hjk : j < k) : (rows[j].length : Int) = ar := by
  have := h j hj hjk
  cases j with
  | zero => simp only [rowAt, Bool.and_eq_true, beq_iff_eq] at this; exact this.2
  | succ j => simp only [rowAt, Bool.and_eq_true, beq_iff_eq] at this; exact this.1.2
end Go.Proofs.Ytfdpigafekohgaa

/- Numbers and texts ars bytes, in plain words. -/
namespace Go.Proofs.Ytfdpigafekohgaa
open Go.RowKit
set_option linter.unusedVariables false

/-- The bytes of n, the highest first, but for the last j of size. -/
def putTo (n : Int) (size j : Nat) : List Int := (List.range (size - j)).map fun q => n / 256 ^ (size - 1 - q) % 256
def putB (n : Int) (size : Nat) : List Int := putTo n size 0
theorem putTo_start {n : Int} {size : Nat} : putTo n size size = [] := by simp [putTo]
theorem putTo_more {n : Int} {size j : Nat} (h : j < size) : putTo n size (j + 1) ++ [n / 256 ^ j % 256] = putTo n size j := by
  unfold putTo
  rw [show size - j = size - (j + 1) + 1 by omega, List.range_succ, List.map_append, List.map_cons, List.map_nil, show size - 1 - (size - (j + 1)) = j by omega]
theorem putTo_len {n : Int} {size j : Nat} : (putTo n size j).length = size - j := by simp [putTo]
theorem putB_len {n : Int} {size : Nat} : (putB n size).length = size := by simp [putB, putTo]
theorem shr8 {m : Int} {i : Nat} (h0 : 0 ≤ m) (hi : i ≤ 6) : m.fdiv (2 ^ (min (8 * (i : Int)).toNat IntKind.i64.bits)) = m / 256 ^ i := by
  have e : (2 : Int) ^ (min (8 * (i : Int)).toNat IntKind.i64.bits) = 256 ^ i := by
    have h : i = 0 ∨ i = 1 ∨ i = 2 ∨ i = 3 ∨ i = 4 ∨ i = 5 ∨ i = 6 := by omega
    rcases h with rfl | rfl | rfl | rfl | rfl | rfl | rfl <;> rfl
  rw [e, Int.fdiv_eq_ediv_of_nonneg _ (Int.pow_nonneg (by omega))]
theorem div256_in {m : Int} {i : Nat} (h0 : 0 ≤ m) : 0 ≤ m / 256 ^ i ∧ m / 256 ^ i ≤ m :=
  ⟨Int.ediv_nonneg h0 (Int.pow_nonneg (by omega)), Int.ediv_le_self _ h0⟩
theorem wf64i {m : Int} (h0 : 0 ≤ m) (h1 : m ≤ 9223372036854775807) : (Lit.int .i64 m).wf = true := by
  simp only [Lit.wf, Bool.and_eq_true, decide_eq_true_eq]
  have a : IntKind.i64.min = -9223372036854775808 := rfl
  have b : IntKind.i64.max = 9223372036854775807 := rfl
  rw [a, b]; omega
theorem wrap8 (m : Int) : IntKind.u8.wrap m = m % 256 := rfl
theorem wrap8_id {m : Int} (h0 : 0 ≤ m) (h1 : m < 256) : IntKind.u8.wrap m = m := by rw [wrap8]; omega
def flatTo {α : Type} (f : α → List Int) (xs : List α) (k : Nat) : List Int := (xs.take k).flatMap f
theorem flatTo_zero {α : Type} {f : α → List Int} {xs : List α} : flatTo f xs 0 = [] := rfl
theorem flatTo_more {α : Type} {f : α → List Int} {xs : List α} {k : Nat} (hk : k < xs.length) : flatTo f xs k ++ f xs[k] = flatTo f xs (k + 1) := by
  unfold flatTo; rw [List.take_succ_eq_append_getElem hk, List.flatMap_append]; simp
theorem flatTo_all {α : Type} {f : α → List Int} {xs : List α} {k : Nat} (hk : xs.length ≤ k) : flatTo f xs k = xs.flatMap f := by unfold flatTo; rw [List.take_of_length_le hk]
theorem flatTo_len {α : Type} {f : α → List Int} {xs : List α} {M k : Nat} (h : ∀ x ∈ xs, (f x).length ≤ M) : (flatTo f xs k).length ≤ M * xs.length := by
  have : ∀ (ys : List α), (∀ x ∈ ys, (f x).length ≤ M) → (ys.flatMap f).length ≤ M * ys.length := by
    intro ys
    induction ys with
    | nil => simp
    | cons y ys ih =>
      intro h
      have h1 := h y (by simp)
      have h2 := ih fun x hx => h x (by simp [hx])
      simp only [List.flatMap_cons, List.length_append, List.length_cons, Nat.mul_succ]; omega
  have h1 := this (xs.take k) fun x hx => h x (List.mem_of_mem_take hx)
  have h2 : (xs.take k).length ≤ xs.length := by simp; omega
  exact Nat.le_trans h1 (Nat.mul_le_mul_left _ h2)
theorem p256_in {k : Nat} (h : k ≤ 6) : 1 ≤ (256 : Int) ^ k ∧ (256 : Int) ^ k ≤ 281474976710656 := by
  have : k = 0 ∨ k = 1 ∨ k = 2 ∨ k = 3 ∨ k = 4 ∨ k = 5 ∨ k = 6 := by omega
  rcases this with rfl | rfl | rfl | rfl | rfl | rfl | rfl <;> decide
theorem quo256 {n : Int} {m : Nat} (h0 : 0 ≤ n) (h1 : n ≤ 9223372036854775807) : IntKind.i64.wrap ((n / 256 ^ m).tdiv 256) = n / 256 ^ (m + 1) := by
  have h2 := div256_in (i := m) h0
  rw [Int.tdiv_eq_ediv_of_nonneg h2.1, Int.ediv_ediv_of_nonneg (Int.pow_nonneg (by omega)), ← Int.pow_succ]
  have h3 : 0 ≤ n / 256 ^ m.succ ∧ n / 256 ^ m.succ ≤ n := div256_in (i := m + 1) h0
  exact IntWalk.i64_in _ (by omega)
theorem rem256 {n : Int} {m : Nat} (h0 : 0 ≤ n) : (n / 256 ^ m).tmod 256 = n / 256 ^ m % 256 := Int.tmod_eq_emod_of_nonneg (div256_in h0).1
theorem mod256_in (m : Int) : 0 ≤ m % 256 ∧ m % 256 < 256 := by omega
end Go.Proofs.Ytfdpigafekohgaa

/- Messages ars bytes, in plain words. -/
namespace Go.Proofs.Ytfdpigafekohgaa
open Go.RowKit
set_option linter.unusedVariables false

def actBytes (a : Actt) : List Int := [a.kind, a.a] ++ putB a.b 6
def pairTo (m : Matcht) (k : Nat) : List Int := (List.range k).flatMap fun f => putB (m.v.getD f 0) 6 ++ putB (m.m.getD f 0) 6
theorem pairTo_zero {m : Matcht} : pairTo m 0 = [] := rfl
theorem pairTo_more {m : Matcht} {k : Nat} (h1 : k < m.v.length) (h2 : k < m.m.length) : pairTo m k ++ (putB m.v[k] 6 ++ putB m.m[k] 6) = pairTo m (k + 1) := by
  unfold pairTo
  rw [List.range_succ, List.flatMap_append]
  simp [List.getD, h1, h2]
theorem pairTo_len {m : Matcht} {k : Nat} : (pairTo m k).length = 12 * k := by
  induction k with
  | zero => rfl
  | succ k ih =>
    unfold pairTo at *
    rw [List.range_succ, List.flatMap_append, List.length_append, ih]
    simp [putB_len]; omega
def headBy (v : List Int) : List Int := v.flatMap fun n => putB n 6
def handB (b : Bool) : Int := if b then 1 else 0
def bodyB (m : Msgt) : List Int :=
  if m.kind = 2 then putB m.epoch 4 ++ putB m.prio 2 ++ pairTo m.mat 8 ++ [(m.acts.length : Int)] ++ m.acts.flatMap actBytes
  else if m.kind = 3 then putB m.epoch 4
  else if m.kind = 5 then [handB m.hand] ++ headBy m.head.v
  else []
def wholeB (m : Msgt) : List Int := [1, m.kind] ++ putB (12 + ((bodyB m).length : Int)) 2 ++ putB m.session 4 ++ putB m.xid 4 ++ bodyB m
def msgBytes (m : Msgt) : List Int × Bool := if msgB m = true then (wholeB m, true) else ([], false)
theorem msgBytes_no {m : Msgt} (h : msgB m = false) : msgBytes m = ([], false) := by simp [msgBytes, h]
theorem msgBytes_ok {m : Msgt} (h : msgB m = true) : msgBytes m = (wholeB m, true) := by simp [msgBytes, h]
theorem actB_in {a : Actt} (h : actB a = true) : 1 ≤ a.kind ∧ a.kind ≤ 5 ∧ 0 ≤ a.a ∧ a.a ≤ 255 ∧ 0 ≤ a.b ∧ a.b ≤ 281474976710655 := by
  unfold actB at h; rw [decide_eq_true_eq] at h; omega
theorem actsB_get {l : List Actt} (h : actsB l = true) {k : Nat} (hk : k < l.length) : actB l[k] = true := by
  simp only [actsB, Bool.and_eq_true] at h
  exact everyB_get (p := fun k (h : k < l.length) => actB l[k]) h.1 hk
theorem actsB_12 {l : List Actt} (h : actsB l = true) : l.length ≤ 12 := by
  simp only [actsB, Bool.and_eq_true, decide_eq_true_eq] at h; exact h.2
theorem fits48 {f v : Int} (h : fitsB f v = true) : 0 ≤ v ∧ v ≤ 281474976710655 := by
  have h1 := fitsB_le h
  have h2 := topOf_bound f
  omega
theorem orIn {a b : Int} (h0 : 0 ≤ a) (hb : 0 ≤ b) (hm : b ≤ 281474976710655) (h : bitAndNot a b = 0) (ha : a ≤ 9223372036854775807) : a ≤ 281474976710655 := by
  have h1 := (bits_in (m := a) (n := b) (by omega) (by omega)).2 h
  have key : ∀ x y : BitVec 64, x ||| y = y → x.toNat ≤ y.toNat := fun x y hxy => by
    have : (x ||| y).toNat = y.toNat := by rw [hxy]
    rw [BitVec.toNat_or] at this
    have := Nat.left_le_or (n := x.toNat) (m := y.toNat)
    omega
  have e : BitVec.ofInt 64 a ||| BitVec.ofInt 64 b = BitVec.ofInt 64 b := by
    refine wrapBits ?_
    have h3 := wrapSelf (n := b) (by omega) (by omega)
    exact h1.trans h3.symm
  have h4 := key _ _ e
  rw [BitVec.toNat_ofInt, BitVec.toNat_ofInt] at h4
  have e1 : a % ((2 ^ 64 : Nat) : Int) = a := Int.emod_eq_of_lt h0 (by omega)
  have e2 : b % ((2 ^ 64 : Nat) : Int) = b := Int.emod_eq_of_lt hb (by omega)
  rw [e1, e2] at h4
  omega
theorem matchB_get {m : Matcht} (h : matchB m = true) (hm : ∀ x ∈ m.v, x ≤ 9223372036854775807) {k : Nat} (hk : k < 8) : ∃ (h1 : k < m.v.length) (h2 : k < m.m.length), (0 ≤ m.v[k] ∧ m.v[k] ≤ 281474976710655) ∧ 0 ≤ m.m[k] ∧ m.m[k] ≤ 281474976710655 := by
  simp only [matchB, Bool.and_eq_true, decide_eq_true_eq] at h
  obtain ⟨h1, h2, h3⟩ := h
  have h4 := eight_8 h2
  have hk1 : k < m.v.length := by omega
  have hk2 : k < m.m.length := by omega
  have h5 := everyB_get h3 hk1
  simp only [inside, hk2, dif_pos, decide_eq_true_eq] at h5
  have h6 := fits48 (eight_get h2 hk2)
  exact ⟨hk1, hk2, ⟨h5.1, orIn h5.1 h6.1 h6.2 h5.2 (hm _ (List.getElem_mem _))⟩, h6⟩
theorem acts_len {l : List Actt} (k : Nat) : (flatTo actBytes l k).length ≤ 8 * l.length :=
  flatTo_len (M := 8) fun x _ => by simp [actBytes, putB_len]
theorem head_len {l : List Int} (k : Nat) : (flatTo (fun n => putB n 6) l k).length ≤ 6 * l.length :=
  flatTo_len (M := 6) fun x _ => by simp [putB_len]
theorem msgB_in {m : Msgt} (h : msgB m = true) : (1 ≤ m.kind ∧ m.kind ≤ 6 ∧ 0 ≤ m.session ∧ m.session ≤ 1000000000 ∧ 0 ≤ m.xid ∧ m.xid ≤ 4294967295) ∧ (m.kind = 2 → (0 ≤ m.epoch ∧ m.epoch ≤ 1000000000 ∧ 0 ≤ m.prio ∧ m.prio ≤ 65535) ∧ matchB m.mat = true ∧ actsB m.acts = true) ∧ (m.kind = 3 → 0 ≤ m.epoch ∧ m.epoch ≤ 1000000000) ∧ (m.kind = 5 → eight m.head.v = true) := by
  unfold msgB at h
  simp only [Bool.and_eq_true, decide_eq_true_eq] at h
  obtain ⟨h1, h2⟩ := h
  split at h2
  · refine ⟨by omega, fun e => by omega, fun e => by omega, fun e => by omega⟩
  · split at h2
    · simp only [entryB, Bool.and_eq_true, decide_eq_true_eq] at h2
      exact ⟨by omega, fun e => ⟨by omega, h2.1.2.1, h2.1.2.2⟩, fun e => by omega, fun e => by omega⟩
    · split at h2
      · simp only [Bool.and_eq_true, decide_eq_true_eq] at h2
        exact ⟨by omega, fun e => by omega, fun e => h2.1, fun e => by omega⟩
      · split at h2
        · simp only [Bool.and_eq_true, decide_eq_true_eq] at h2
          exact ⟨by omega, fun e => by omega, fun e => by omega, fun e => h2.2.2⟩
        · cases h2
theorem bodyB_add {m : Msgt} (h : m.kind = 2) : bodyB m = putB m.epoch 4 ++ putB m.prio 2 ++ pairTo m.mat 8 ++ [(m.acts.length : Int)] ++ m.acts.flatMap actBytes := by simp [bodyB, h]
theorem bodyB_flip {m : Msgt} (h : m.kind = 3) : bodyB m = putB m.epoch 4 := by simp [bodyB, h]
theorem bodyB_note {m : Msgt} (h : m.kind = 5) : bodyB m = [handB m.hand] ++ headBy m.head.v := by simp [bodyB, h]
theorem bodyB_none {m : Msgt} (h2 : ¬ m.kind = 2) (h3 : ¬ m.kind = 3) (h5 : ¬ m.kind = 5) : bodyB m = [] := by simp [bodyB, h2, h3, h5]
theorem bodyB_len {m : Msgt} (h : msgB m = true) : (bodyB m).length ≤ 287 := by
  have h1 := msgB_in h
  unfold bodyB
  split
  · rename_i e
    have := acts_len (l := m.acts) m.acts.length
    rw [flatTo_all (Nat.le_refl _)] at this
    have := actsB_12 (h1.2.1 e).2.2
    simp only [List.length_append, putB_len, pairTo_len, List.length_cons, List.length_nil]; omega
  · split
    · simp [putB_len]
    · split
      · rename_i e
        have := head_len (l := m.head.v) m.head.v.length
        rw [flatTo_all (Nat.le_refl _)] at this
        have := eight_8 (h1.2.2.2 e)
        simp only [headBy, List.length_append, List.length_cons, List.length_nil]; omega
      · simp
/-- The head's own bytes, with no length yet. -/
def openB (m : Msgt) : List Int := [1, m.kind, 0, 0] ++ putB m.session 4 ++ putB m.xid 4
theorem whole_of {m : Msgt} {xs : List Int} (hx : xs = openB m ++ bodyB m) : xs.take 2 ++ putB (xs.length : Int) 2 ++ xs.drop (2 + 2) = wholeB m := by
  subst hx
  have h1 : ((openB m ++ bodyB m).length : Int) = 12 + ((bodyB m).length : Int) := by
    simp only [openB, List.length_append, List.length_cons, List.length_nil, putB_len]; omega
  rw [h1]
  unfold openB wholeB
  simp [List.append_assoc]
theorem msgB_ep {m : Msgt} (h : msgB m = true) : m.kind = 2 ∨ m.kind = 3 → 0 ≤ m.epoch ∧ m.epoch ≤ 1000000000 := fun e => by
  have h1 := msgB_in h
  rcases e with e | e
  · have := (h1.2.1 e).1; omega
  · exact h1.2.2.1 e
theorem putB_one {n : Int} (h0 : 0 ≤ n) (h1 : n < 256) : putB n 1 = [n] := by
  have : putB n 1 = [n % 256] := by simp [putB, putTo, List.range_succ]
  rw [this, show n % 256 = n by omega]
end Go.Proofs.Ytfdpigafekohgaa

/- Parts of slices and of texts; texts made of bytes; own arrays that are given up to be read alone. -/
namespace Go.Proofs.Ytfdpigafekohgaa
open Go.RowKit
set_option linter.unusedVariables false

theorem run_sliceOf {P : Program} {T E n : Nat} (hT : sliceT P T = some (E, n)) (w : World) (a : Option Addr) (len cap : Nat) {lo hi : Option Value} {l h : Nat} (hlo : (lo = none ∧ l = 0) ∨ ∃ k, lo = some (.int k (l : Int))) (hhi : (hi = none ∧ h = len) ∨ ∃ k, hi = some (.int k (h : Int)))
    (h1 : l ≤ h) (h2 : h ≤ cap) : (Instr.sliceAt T (.slice a len cap) lo hi none).run P w = .ok (.slice (if cap = l then a else a.map (·.add (l * n))) (h - l) (cap - l)) w := by
  obtain ⟨hu, ii, hii, rfl⟩ := sliceT_spec hT
  have e1 : (0 : Int) ≤ (l : Int) ∧ (l : Int) ≤ (h : Int) := by omega
  have e2 : (0 : Int) ≤ (h : Int) ∧ (h : Int) ≤ (cap : Int) := by omega
  rcases hlo with ⟨rfl, rfl⟩ | ⟨k, rfl⟩ <;> rcases hhi with ⟨rfl, rfl⟩ | ⟨k', rfl⟩ <;>
    simp [Instr.sliceAt, Instr.slice, run_underlying hu, Instr.sliceBounds, run_sliceBound, sizeOf, typeInfo, *]
theorem part_drop {α : Type} {xs : List α} {l : Nat} : (xs.drop l).take (xs.length - l) = xs.drop l := List.take_of_length_le (by simp)
/-- A bound of a part: an operand, or the usual one. -/
inductive OB (t : Tmps) (dv : Nat) : Option Operand → List (Nat × AVal) → Nat → Prop
  | no : OB t dv none [] dv
  | yes {o : Operand} {k : IntKind} {v : Int} {l : Nat} (h : evo t o = some (.one (.c (.int k v)))) (hv : v = (l : Int)) : OB t dv (some o) (rdo o (.one (.c (.int k v)))) l
theorem OB.rd {t : Tmps} {dv : Nat} {o : Option Operand} {rd : List (Nat × AVal)} {l : Nat} (h : OB t dv o rd l) : ∀ p ∈ rd, lk t p.1 = some p.2 := by
  cases h with
  | no => intro p hp; cases hp
  | yes h hv => exact rdo_of h
theorem OB.ev {N : Nat} {t : Tmps} {dv : Nat} {o : Option Operand} {rd : List (Nat × AVal)} {l : Nat} (h : OB t dv o rd l) {g : Gh} {s : St} {a : Act} {w : World} (r : Rep N g s a w) (hr : ∀ p ∈ rd, lk s.t p.1 = some p.2) :
    (o.map a.eval = none ∧ l = dv) ∨ ∃ k, o.map a.eval = some (.int k (l : Int)) := by
  cases h with
  | no => exact .inl ⟨rfl, rfl⟩
  | yes h hv =>
    have e4 := (eval_ok r (evs_of h) hr : CellR g s.l w _ (.c _)).1
    subst hv
    exact .inr ⟨_, congrArg some e4⟩
section ops
variable {P : Program} {N : Nat} {s : St} {d : Nat} {ty : TypeId} {pos : String} {after : Array Edge} {gd : Option (Nat × Bool)}
theorem x_slice {α : Type} {e : Enc α} {xs ys : List α} {T E n l h : Nat} {x : Operand} {lo hi : Option Operand} {rl rh : List (Nat × AVal)} (hN : Nat.blt d N = true) (hx : evo s.t x = some (.one (.sl e xs))) (hT : sliceT P T = some (E, n)) (hz : e.size = n) (ho : OB s.t 0 lo rl l) (hh : OB s.t xs.length hi rh h)
    (h1 : l ≤ h) (h2 : h ≤ xs.length) (hy : (xs.drop l).take (h - l) = ys) :
    Stp P N ⟨some d, .slice T x lo hi none, ty, pos, after, gd⟩ s ⟨(d, .one (.sl e ys)) :: s.t, s.l⟩ ⟨rdo x (.one (.sl e xs)) ++ (rl ++ rh), [], [(d, .one (.sl e ys))], [], []⟩ :=
  Stp.pure rfl hN (fun p hp => by rcases List.mem_append.1 hp with hp | hp; exact rdo_of hx p hp; rcases List.mem_append.1 hp with hp | hp; exact ho.rd p hp; exact hh.rd p hp) (by simp) fun g s' a w ht hl' r => by
    obtain ⟨ad, m, cap, bs, e1, e2, e3⟩ : CellR g s'.l w (a.eval x) (.sl e xs) := eval_ok r (evs_of hx) fun p hp => ht p (List.mem_append_left _ hp)
    have q1 := ho.ev r fun p hp => ht p (List.mem_append_right _ (List.mem_append_left _ hp))
    have q2 := hh.ev r fun p hp => ht p (List.mem_append_right _ (List.mem_append_right _ hp))
    have q2' : (hi.map a.eval = none ∧ h = m) ∨ ∃ k, hi.map a.eval = some (.int k (h : Int)) := by rw [e2.1]; exact q2
    have hrun := run_sliceOf hT w ad m cap q1 q2' h1 (by have := e2.1; have := e2.2.1; omega)
    obtain ⟨bs', p1, p2⟩ := e2.part h1 h2
    subst hz; subst hy
    exact ⟨_, by simp only [execOp, e1, Sem.run_bind, Option.map_none, hrun, Result.andThen_ok, Sem.run_pure], _, _, _, bs', rfl, p1, fun b hb => e3 b (p2 b hb)⟩
/-- A part of an own array. -/
theorem x_oslice {α : Type} {e : Enc α} {xs : List α} {dp : Bool} {T E n l h K : Nat} {x : Operand} {lo hi : Option Operand} {rl rh : List (Nat × AVal)} (hN : Nat.blt d N = true) (hx : evo s.t x = some (.one (.own K))) (hl : lkl s.l K = some (.arr E e xs dp)) (hT : sliceT P T = some (E, n)) (hz : e.size = n) (ho : OB s.t 0 lo rl l) (hh : OB s.t xs.length hi rh h)
    (h1 : l ≤ h) (h2 : h ≤ xs.length) :
    Stp P N ⟨some d, .slice T x lo hi none, ty, pos, after, gd⟩ s ⟨(d, .one (.osl K l (h - l))) :: s.t, s.l⟩ ⟨rdo x (.one (.own K)) ++ (rl ++ rh), [(K, .arr E e xs dp)], [(d, .one (.osl K l (h - l)))], [], []⟩ :=
  Stp.pure rfl hN (fun p hp => by rcases List.mem_append.1 hp with hp | hp; exact rdo_of hx p hp; rcases List.mem_append.1 hp with hp | hp; exact ho.rd p hp; exact hh.rd p hp) (by simpa using hl) fun g s' a w ht hl' r => by
    have hK : lkl s'.l K = some (.arr E e xs dp) := hl' (K, .arr E e xs dp) (by simp)
    have e1 : a.eval x = g.hd K := (eval_ok r (evs_of hx) fun p hp => ht p (List.mem_append_left _ hp) : CellR g s'.l w _ (.own K)) _ _ _ _ _ hK
    have q1 := ho.ev r fun p hp => ht p (List.mem_append_right _ (List.mem_append_left _ hp))
    have q2 := hh.ev r fun p hp => ht p (List.mem_append_right _ (List.mem_append_right _ hp))
    rcases r.mem.arr K α E e xs dp hK with ⟨f1, f2, _⟩ | ⟨cap, vs, bss, f1, f2, f3, _⟩
    · subst f1
      have : h = 0 := by simpa using h2
      subst this
      have : l = 0 := by omega
      subst this
      have hrun := run_sliceOf hT w none 0 0 q1 q2 h1 h2
      refine ⟨.slice none 0 0, by simp only [execOp, e1, f2, Sem.run_bind, Option.map_none, hrun, Result.andThen_ok, Sem.run_pure]; rfl, fun β U f ys dq hq => .inl ⟨f2, rfl, rfl, rfl⟩⟩
    · have hrun := run_sliceOf hT w (some ⟨g.ρ K, 0, none⟩) xs.length cap q1 q2 h1 (by omega)
      refine ⟨_, by simp only [execOp, e1, f1, Sem.run_bind, Option.map_none, hrun, Result.andThen_ok, Sem.run_pure]; rfl, fun β U f ys dq hq => ?_⟩
      rw [hK] at hq; cases hq
      refine .inr ⟨xs.length, cap, if cap = l then 0 else l * n, f1, ?_, by omega, f2, fun hlc => by rw [if_neg (by omega), hz]⟩
      split <;> simp [addr_add]
/-- The text of bytes. -/
def bytesStr (xs : List Int) : ByteArray := ⟨(xs.map fun n => UInt8.ofNat n.toNat).toArray⟩
theorem bytesStr_size (xs : List Int) : (bytesStr xs).size = xs.length := by
  show ((xs.map fun n => UInt8.ofNat n.toNat).toArray).size = xs.length
  simp
theorem u8_back {n : Int} (h : (Lit.int .u8 n).wf = true) : ((UInt8.ofNat n.toNat).toNat : Int) = n := by
  simp only [Lit.wf, Bool.and_eq_true, decide_eq_true_eq] at h
  have h1 : IntKind.u8.min = 0 := rfl
  have h2 : IntKind.u8.max = 255 := rfl
  rw [h1, h2] at h
  have : (UInt8.ofNat n.toNat).toNat = n.toNat % 256 := by simp
  rw [this]; omega
theorem run_tostr {P : Program} {T U E : TypeId} (hT : byteT P T U E = true) {w : World} {a : Option Addr} {n cap : Nat} {xs : List Int} {bs : List Nat} (h : SliceRep (intE .u8) w a n cap xs bs) : (convert T U (.slice a n cap)).run P w = .ok (.string (bytesStr xs)) w := by
  obtain ⟨hu, hus, he, _⟩ := byteT_spec hT
  obtain ⟨rfl, g1, g2, g3, g4⟩ := h
  have back : ∀ a, (∀ j (hj : j < xs.length), (Lit.int .u8 xs[j]).wf = true ∧ w.cell? (a.add j) = some (.int .u8 xs[j])) → (convert T U (.slice (some a) xs.length cap)).run P w = .ok (.string (bytesStr xs)) w := fun a hc => by
    have := run_convert_bytes_back (P := P) w T U E a cap (xs.map fun n => UInt8.ofNat n.toNat) hu he hus (fun j hj => by
      have hj' : j < xs.length := by simpa using hj
      rw [(hc j hj').2]
      simp only [List.getElem_map, u8_back (hc j hj').1])
    rw [List.length_map] at this
    exact this
  rcases g4 with ⟨rfl, _⟩ | ⟨g, off, bss, hne, rfl, hg, rfl, hE⟩
  · cases a with
    | none => exact Lib.run_convert_nil_bytes w T U E cap hu he hus
    | some a => exact back a fun j hj => by simp at hj
  · refine back _ fun j hj => ?_
    obtain ⟨cs, ⟨rfl, q1, _⟩, q2⟩ := hE.2 j xs[j] (bss[j]'(by rw [hE.1]; exact hj)) (List.getElem?_eq_getElem hj) (List.getElem?_eq_getElem _)
    have := q2 0 _ rfl
    rw [addr_add]
    refine ⟨q1, ?_⟩
    have e3 : off + j * (intE .u8).size + 0 = off + j := by show off + j * 1 + 0 = off + j; omega
    rwa [e3] at this
theorem x_tostr {T U E : TypeId} {x : Operand} {xs : List Int} (hN : Nat.blt d N = true) (h : evo s.t x = some (.one (.sl (intE .u8) xs))) (hT : byteT P T U E = true) :
    Stp P N ⟨some d, .convert T U x, ty, pos, after, gd⟩ s ⟨(d, .one (.c (.string (bytesStr xs)))) :: s.t, s.l⟩ ⟨rdo x (.one (.sl (intE .u8) xs)), [], [(d, .one (.c (.string (bytesStr xs))))], [], []⟩ :=
  Stp.pure rfl hN (rdo_of h) (by simp) fun g s' a w ht hl' r => by
    obtain ⟨ad, m, cap, bs, e1, e2, e3⟩ : CellR g s'.l w (a.eval x) (.sl (intE .u8) xs) := eval_ok r (evs_of h) ht
    exact ⟨_, by simp only [execOp, e1, Sem.run_bind, run_tostr hT e2, Result.andThen_ok, Sem.run_pure], rfl, by show (bytesStr xs).size ≤ maxLen; rw [bytesStr_size, ← e2.1]; have := e2.2.1; have := e2.2.2.1; omega⟩
end ops
/-! ### An own array is given up: nobody writes it any more -/
def Gh.shut (g : Gh) (k : Nat) : Gh := { g with I := fun b => g.I b ∨ (g.hd k ≠ .slice none 0 0 ∧ b = g.ρ k) }
section shut
variable {g : Gh} {l : Locs} {w : World}
variable {P : Program} {N : Nat} {K : List Nat} {Kn : St → Prop} {Q : Exit → St → Prop} {s : St}
end shut
end Go.Proofs.Ytfdpigafekohgaa

/- Numbers copied into a part of an own array; nil ars an array that is taken; numbers in memory are not too great. -/
namespace Go.Proofs.Ytfdpigafekohgaa
open Go.RowKit
set_option linter.unusedVariables false
set_option linter.unusedSimpArgs false

section ops
variable {P : Program} {N : Nat} {s : St} {d : Nat} {ty : TypeId} {pos : String} {after : Array Edge} {gd : Option (Nat × Bool)}
theorem int_nofp {kd : IntKind} : ∀ w cs y b, (intE kd).rep w cs y b → b = [] := fun w cs y b h => h.2.2
theorem get3 {A B C : List Value} {q : Nat} : (A ++ B ++ C)[q]? = if q < A.length then A[q]? else if q < A.length + B.length then B[q - A.length]? else C[q - A.length - B.length]? := by
  rw [List.append_assoc]
  by_cases h : q < A.length
  · rw [if_pos h, List.getElem?_append_left h]
  · rw [if_neg h, List.getElem?_append_right (by omega)]
    by_cases h2 : q < A.length + B.length
    · rw [if_pos h2, List.getElem?_append_left (by omega)]
    · rw [if_neg h2, List.getElem?_append_right (by omega)]
theorem flat1_len {kd : IntKind} : ∀ (xs : List Int), (xs.flatMap fun n => [Cell.c (.int kd n)]).length = xs.length
  | [] => rfl
  | x :: xs => by rw [List.flatMap_cons, List.length_append, flat1_len xs, List.length_cons]; simp; omega
theorem FR.oneC {kd : IntKind} {w : World} {xs : List Int} {vs : List Value} {bs : List Nat} (h : FR w vs (xs.flatMap fun n => [Cell.c (.int kd n)]) bs) : vs.length = xs.length := by
  rw [h.length]; exact flat1_len xs
theorem FR.cut {w : World} {vs : List Value} {cs ds : List Cell} (h : FR w vs (cs ++ ds) []) : FR w (vs.take cs.length) cs [] ∧ FR w (vs.drop cs.length) ds [] := by
  obtain ⟨v1, v2, b1, b2, rfl, hb, h1, h2⟩ := FR.app.1 h
  have e := List.append_eq_nil_iff.1 hb.symm
  rw [e.1] at h1
  rw [e.2] at h2
  rw [← h1.length]
  rw [List.take_left, List.drop_left]
  exact ⟨h1, h2⟩
/-- Numbers copied over a part of an own array of numbers. -/
theorem x_copy {kd : IntKind} {T E lo n k j : Nat} {x y : Operand} {xs ys zs : List Int} {dp dq : Bool} (hN : Nat.blt d N = true) (hx : evo s.t x = some (.one (.osl k lo n))) (hy : evo s.t y = some (.one (.own j))) (hl : lkl s.l k = some (.arr E (intE kd) xs dp)) (hl2 : lkl s.l j = some (.arr E (intE kd) ys dq))
    (hT : sliceT P T = some (E, 1)) (hn : ys.length = n) (hpos : 0 < n) (hb : lo + n ≤ xs.length) (hz : xs.take lo ++ ys ++ xs.drop (lo + n) = zs) :
    Stp P N ⟨some d, .call { callee := .builtin .copy, args := #[x, y], argTypes := #[T, T] }, ty, pos, after, gd⟩ s ⟨(d, .one (.c (.int .i64 (n : Int)))) :: s.t, (k, some (.arr E (intE kd) zs dp)) :: s.l⟩
      ⟨rdo x (.one (.osl k lo n)) ++ rdo y (.one (.own j)), [(k, .arr E (intE kd) xs dp), (j, .arr E (intE kd) ys dq)], [(d, .one (.c (.int .i64 (n : Int))))], [(k, some (.arr E (intE kd) zs dp))], []⟩ := by
  subst hz
  refine ⟨fun K g s' a w hp r => ?_, ⟨two_rd hx hy, by simp [hl, hl2], by simp⟩, by simp [Cert.upd]⟩
  obtain ⟨p1, p2, p3⟩ := hp
  have hk : lkl s'.l k = some (.arr E (intE kd) xs dp) := p2 (k, .arr E (intE kd) xs dp) (by simp)
  have hj : lkl s'.l j = some (.arr E (intE kd) ys dq) := p2 (j, .arr E (intE kd) ys dq) (by simp)
  have e1 := (eval_ok r (evs_of hx) fun p hp => p1 p (List.mem_append_left _ hp) : CellR g s'.l w (a.eval x) (.osl k lo n)) _ _ _ _ _ hk
  have e2 : a.eval y = g.hd j := (eval_ok r (evs_of hy) fun p hp => p1 p (List.mem_append_right _ hp) : CellR g s'.l w (a.eval y) (.own j)) _ _ _ _ _ hj
  obtain ⟨us, c1, o1, f1, _⟩ := (r.mem.arr j _ _ _ _ _ hj).row
  have hc1 := FR.nofp (e := intE kd) int_nofp f1
  subst hc1
  rcases e1 with ⟨z1, z2, z3, z4⟩ | ⟨len, cap, off, z1, z2, z3, z4, z5⟩
  · omega
  rcases r.mem.arr k _ _ _ _ _ hk with ⟨rfl, _⟩ | ⟨cap', vs, bss, g1, g2, g3, g4, g5, g6, g7, g8, g9⟩
  · simp at hb; omega
  rw [g1] at z1; cases z1
  have hoff := z5 (by omega)
  obtain ⟨cells, bs, o0, f0, i0, F0, _⟩ := (r.mem.arr k _ _ _ _ _ hk).row
  have hbs := FR.nofp (e := intE kd) int_nofp f0
  subst hbs
  have hlc := FR.oneC f0
  have hlu := FR.oneC f1
  have hv : vs.toList.take xs.length = cells := by
    rcases o0.2 with ⟨q, _⟩ | ⟨b0, cap0, cur0, q1, _, q3, _, _, _, q7⟩
    · rw [g1] at q; cases q
    · rw [g1] at q1; cases q1
      rw [g4] at q3; cases q3
      have : (intE kd).size = 1 := rfl
      rw [this, Nat.mul_one] at q7; exact q7
  have hsz1 : vs.size = cap := by rw [g5]; exact Nat.mul_one _
  have he1 : (intE kd).size = 1 := rfl
  rw [he1, Nat.mul_one] at hoff
  have hoff' := hoff.symm
  subst hoff'
  have hlv : g.hd k ≠ .slice none 0 0 := by rw [g1]; intro e; cases e
  have hrun : (Builtin.copy_ #[T, T] ty #[a.eval x, a.eval y]).run P w = .ok (goInt n) (w.setRow (g.ρ k) (vs.toList.take lo ++ us ++ vs.toList.drop (lo + us.length)).toArray) := by
    obtain ⟨hu, ii, hii, hi1⟩ := sliceT_spec hT
    rcases o1.2 with ⟨q, q2⟩ | ⟨b0, cap0, cur0, q1, _, q3, _⟩
    · omega
    · rw [z2, e2, q1]
      have := run_copy_row (P := P) w T T ty E (g.ρ k) lo n (cap - lo) ⟨b0, 0, none⟩ ys.length cap0 vs E us hu (by rw [hii]; simp [hi1]) g4 (by rw [hlu, hn]; simp) (o1.cells (by rw [q1]; rfl)) (by rw [hlu, hsz1]; omega) (FR.one f1)
      rw [this, hlu, hn]
  have hf : FR w (cells.take lo ++ us ++ cells.drop (lo + n)) ((xs.take lo ++ ys ++ xs.drop (lo + n)).flatMap fun n => [Cell.c (.int kd n)]) [] := by
    have h1 : xs.flatMap (fun n => [Cell.c (.int kd n)]) = (xs.take lo).flatMap (fun n => [Cell.c (.int kd n)]) ++ (xs.drop lo).flatMap (fun n => [Cell.c (.int kd n)]) := by rw [← List.flatMap_append, List.take_append_drop]
    have h2 : xs.flatMap (fun n => [Cell.c (.int kd n)]) = (xs.take (lo + n)).flatMap (fun n => [Cell.c (.int kd n)]) ++ (xs.drop (lo + n)).flatMap (fun n => [Cell.c (.int kd n)]) := by rw [← List.flatMap_append, List.take_append_drop]
    have a1 := (FR.cut (h1 ▸ f0)).1
    have a2 := (FR.cut (h2 ▸ f0)).2
    have l1 : ((xs.take lo).flatMap fun n => [Cell.c (.int kd n)]).length = lo := by rw [flat1_len]; simp; omega
    have l2 : ((xs.take (lo + n)).flatMap fun n => [Cell.c (.int kd n)]).length = lo + n := by rw [flat1_len]; simp; omega
    rw [l1] at a1
    rw [l2] at a2
    rw [List.flatMap_append, List.flatMap_append]
    exact FR.app.2 ⟨_, _, [], [], rfl, rfl, FR.app.2 ⟨_, _, [], [], rfl, rfl, a1, f1⟩, a2⟩
  generalize hnew : (vs.toList.take lo ++ us ++ vs.toList.drop (lo + us.length)).toArray = new at *
  have hns : new.size = vs.size := by rw [← hnew]; simp; omega
  have hwk : (w.setRow (g.ρ k) new).heap[g.ρ k]? = some (.cells new E (0, 0)) := setRow_heap w _ _ _ E _ g4
  have hwo : ∀ b, b ≠ g.ρ k → (w.setRow (g.ρ k) new).heap[b]? = w.heap[b]? := fun b hb => setRow_other w _ b _ hb
  have hsz : (w.setRow (g.ρ k) new).heap.size = w.heap.size := by simp
  have hlen : (xs.take lo ++ ys ++ xs.drop (lo + n)).length = xs.length := by simp; omega
  have htk : new.toList.take xs.length = cells.take lo ++ us ++ cells.drop (lo + n) := by
    rw [← hnew, ← hv]
    simp only [List.toList_toArray]
    refine List.ext_getElem? fun q => ?_
    have hl0 : (vs.toList.take lo).length = lo := by simp; omega
    have hl1 : ((vs.toList.take xs.length).take lo).length = lo := by simp; omega
    rw [List.getElem?_take, get3, get3, hl0, hl1]
    by_cases hq : q < lo
    · rw [if_pos (by omega), if_pos hq, if_pos hq, List.take_take, Nat.min_eq_left (by omega)]
    · rw [if_neg hq, if_neg hq]
      by_cases hq2 : q < lo + us.length
      · rw [if_pos (by omega), if_pos hq2, if_pos hq2]
      · rw [if_neg hq2, if_neg hq2, List.getElem?_drop, List.getElem?_drop, List.getElem?_take]
        rw [show lo + us.length + (q - lo - us.length) = q by omega, show lo + n + (q - lo - us.length) = q by omega]
  obtain ⟨g', q1, q2, q3, q4, q5, q6, q7⟩ := arr_put (w' := w.setRow (g.ρ k) new) r.mem hk hlv (js := []) (by simp) (by simp) (xs := xs.take lo ++ ys ++ xs.drop (lo + n)) (d := dp) (fp := []) rfl rfl rfl hsz hwo
    (ArrR.ofRow (cells := cells.take lo ++ us ++ cells.drop (lo + n)) (bs := []) ⟨by rw [hlen, he1, Nat.mul_one]; simp; omega, .inr ⟨g.ρ k, cap, new, by rw [hlen]; exact g1, Nat.zero_le _, hwk, by rw [hlen]; omega, g3, by rw [hns]; exact g5, by rw [hlen, he1, Nat.mul_one]; exact htk⟩⟩
      (hf.keep (fun _ h => by cases h) (Nat.le_of_eq hsz.symm)) (fun _ h => by cases h) (fun _ => setAt_self) (fun b hb => by
        have hb' : (g.hd k).ownBlock = some b := hb
        rw [g1] at hb'
        cases hb'
        refine ⟨rfl, fun h => h.elim g8 fun h => ?_⟩
        obtain ⟨j, hj, _⟩ := h
        cases hj))
    (fun _ => ⟨List.nodup_nil, fun b hb => by cases hb⟩)
  unfold Oper.wp
  have hrun' : (execOp a.eval ⟨some d, .call { callee := .builtin .copy, args := #[x, y], argTypes := #[T, T] }, ty, pos, after, gd⟩).run P w = .ok (.value (goInt n)) (w.setRow (g.ρ k) new) := by
    simp only [execOp, resolve, invoke, builtin, Sem.run_bind, Sem.run_pure, Result.andThen_ok, List.map_toArray, List.map_cons, List.map_nil, hrun]
  rw [hrun', Oper.upon_value]
  have hm : n ≤ maxLen := by omega
  exact ⟨g', r.next (blt_lt hN) q5 q6 (Nat.le_of_eq hsz.symm) (fun j _ => q7 j) ⟨rfl, wf_len hm⟩ q3, q4 K⟩
end ops
/-- A contract that takes an array takes nil, too. -/
theorem AT.nil {P : Program} {f : FuncId} {rest : List AVal} {α β : Type} {T U : TypeId} {e : Enc α} {e' : Enc β} {ys : List β} {d' : Bool}
    (h : AT P f (.one (.own 0) :: rest) [(0, some (.arr T e [] true))] (.one (.own 1)) [(1, some (.arr U e' ys d'))]) (hrest : rest.flatMap AVal.ids1 = []) (c : Nat) :
    AC P f (.one (.c (.slice none 0 0)) :: rest) [] (.one (.own c)) [(c, some (.arr U e' ys d'))] := by
  refine ⟨h.fn, fun g w cargs m ha => ?_⟩
  obtain ⟨g', q1, q2, q3, q4, q5⟩ := nil_new m (k := 0) rfl (by simp [Locs.ids]) α T e
  have ha' : All2 (VR1 g' [(0, some (.arr (α := α) T e [] true))] w) cargs.toList (.one (.own 0) :: rest) := by
    generalize cargs.toList = vs at ha
    cases vs with
    | nil => exact ha
    | cons v vs =>
      refine ⟨fun β U e2 ys dd hc => by rw [q1]; exact ha.1.1, ha.2.mono fun a b hb hr => VR1.step (fun _ _ => rfl) q4 (Nat.le_refl _) (fun k hk => ?_) hr⟩
      have : k ∈ rest.flatMap AVal.ids1 := List.mem_flatMap.2 ⟨b, hb, hk⟩
      rw [hrest] at this; cases this
  refine (h.run g' w cargs q2 ha').mono ?_
  rintro r w' ⟨v, g1, rfl, m1, hv, hs⟩
  have hle : LeL (fun _ => 1) [(1, some (.arr U e' ys d'))] [(c, some (.arr U e' ys d'))] := ⟨⟨_, rfl, BLe.rf⟩, trivial⟩
  have T1 := ((q3 []).trans m q2 hs).trans m m1 (Step.unren hle trivial)
  exact ⟨v, g1.ren _, rfl, m1.unren hle (by simp [injL, keys]), VR.unren (x := .one (.own c)) hle hv, T1⟩
/-- Numbers that lie in memory are those of their kind. -/
theorem AW_aggint {P : Program} {N : Nat} {K : List Nat} {c : Code} {Kn : St → Prop} {Q : Exit → St → Prop} {s : St} {xs : List Int} {cs : List Cell} (t i : Nat) (h : lk s.t t = some (.agg cs)) (hi : nthC cs i = some (.sl (intE .i64) xs)) (hA : (∀ x ∈ xs, -9223372036854775808 ≤ x ∧ x ≤ 9223372036854775807) → AW P N K c Kn Q s) : AW P N K c Kn Q s := fun g a w r => by
  obtain ⟨vs, _, h2⟩ : ∃ vs : List Value, a.tmps.getD t undef = .agg vs.toArray ∧ All2 (CellR g s.l w) vs cs := r.tmp t _ h
  obtain ⟨v, _, h4⟩ := h2.get (nthC_get hi)
  obtain ⟨a0, n, cap, bs, _, h1, _⟩ := h4
  refine hA (fun x hx => ?_) g a w r
  obtain ⟨j, hj, rfl⟩ := List.getElem_of_mem hx
  obtain ⟨gb, o, cs, b, _, f1, _⟩ := h1.get hj
  have := f1.2.1
  simp only [Lit.wf, Bool.and_eq_true, decide_eq_true_eq] at this
  exact this
end Go.Proofs.Ytfdpigafekohgaa

/- Smaller numbers of two; pointers that are not nil; bytes in memory are bytes. -/
namespace Go.Proofs.Ytfdpigafekohgaa
open Go.RowKit
set_option linter.unusedVariables false
section ops
variable {P : Program} {N : Nat} {s : St} {d : Nat} {ty : TypeId} {pos : String} {after : Array Edge} {gd : Option (Nat × Bool)}
theorem x_nilc {x : Operand} {k off : Nat} {cs : List Cell} (hN : Nat.blt d N = true) (h : evo s.t x = some (.one (.ptr k off))) (hk : lkl s.l k = some (.box cs)) :
    Stp P N ⟨some d, .nilCheck x, ty, pos, after, gd⟩ s ⟨(d, .one (.ptr k off)) :: s.t, s.l⟩ ⟨rdo x (.one (.ptr k off)), [(k, .box cs)], [(d, .one (.ptr k off))], [], []⟩ :=
  Stp.pure rfl hN (rdo_of h) (by simpa using hk) fun g s' a w ht hl' r => by
    have hk' : lkl s'.l k = some (.box cs) := hl' (k, .box cs) (by simp)
    have hv : a.eval x = .pointer (some ⟨g.ρ k, off, none⟩) := (eval_ok r (evs_of h) ht : CellR g s'.l w _ (.ptr k off)) cs hk'
    exact ⟨_, by simp only [execOp, hv, Sem.run_pure], fun cs' hc => rfl⟩
end ops
theorem byte_wf {x : Int} (h : (Lit.int .u8 x).wf = true) : 0 ≤ x ∧ x ≤ 255 := by
  simp only [Lit.wf, Bool.and_eq_true, decide_eq_true_eq] at h
  exact h
theorem SliceRep.bytes {w : World} {a : Option Addr} {n cap : Nat} {xs : List Int} {bs : List Nat} (h : SliceRep (intE .u8) w a n cap xs bs) : ∀ x ∈ xs, 0 ≤ x ∧ x ≤ 255 := fun x hx => by
  obtain ⟨j, hj, rfl⟩ := List.getElem_of_mem hx
  obtain ⟨gb, o, cs, b, _, f1, _⟩ := h.get hj
  exact byte_wf f1.2.1
theorem AW_slbyte {P : Program} {N : Nat} {K : List Nat} {c : Code} {Kn : St → Prop} {Q : Exit → St → Prop} {s : St} {xs : List Int} (t : Nat) (h : lk s.t t = some (.one (.sl (intE .u8) xs))) (hA : (∀ x ∈ xs, 0 ≤ x ∧ x ≤ 255) → AW P N K c Kn Q s) : AW P N K c Kn Q s := fun g a w r => by
  obtain ⟨a0, n, cap, bs, _, h1, _⟩ : CellR g s.l w (a.tmps.getD t undef) (.sl (intE .u8) xs) := r.tmp t _ h
  exact hA h1.bytes g a w r
theorem bytesStr_inj {xs ys : List Int} (hx : ∀ x ∈ xs, 0 ≤ x ∧ x ≤ 255) (hy : ∀ x ∈ ys, 0 ≤ x ∧ x ≤ 255) (h : bytesStr xs = bytesStr ys) : xs = ys := by
  have h1 : (xs.map fun n => UInt8.ofNat n.toNat) = ys.map fun n => UInt8.ofNat n.toNat := by
    have := congrArg (fun b : ByteArray => b.data.toList) h
    simpa [bytesStr] using this
  have h2 := congrArg (List.map fun b : UInt8 => (b.toNat : Int)) h1
  rw [List.map_map, List.map_map] at h2
  have key : ∀ zs : List Int, (∀ x ∈ zs, 0 ≤ x ∧ x ≤ 255) → zs.map ((fun b : UInt8 => (b.toNat : Int)) ∘ fun n : Int => UInt8.ofNat n.toNat) = zs := fun zs hz => by
    conv => rhs; rw [← List.map_id zs]
    apply List.map_congr_left
    intro x hxz
    have := hz x hxz
    simp
    omega
  rwa [key xs hx, key ys hy] at h2
theorem bytesStr_beq {xs ys : List Int} (hx : ∀ x ∈ xs, 0 ≤ x ∧ x ≤ 255) (hy : ∀ x ∈ ys, 0 ≤ x ∧ x ≤ 255) : (bytesStr xs == bytesStr ys) = decide (xs = ys) := by
  by_cases h : xs = ys
  · subst h
    rw [beq_toListBytes, decide_eq_true rfl]; simp
  · rw [decide_eq_false h]
    cases hb : bytesStr xs == bytesStr ys
    · rfl
    · exfalso
      rw [beq_toListBytes, ByteArray.toList_eq, ByteArray.toList_eq] at hb
      have h2 : (bytesStr xs).data.toList = (bytesStr ys).data.toList := by simpa using hb
      refine h (bytesStr_inj hx hy ?_)
      generalize bytesStr xs = a at *
      generalize bytesStr ys = b at *
      obtain ⟨⟨a⟩⟩ := a
      obtain ⟨⟨b⟩⟩ := b
      simp at h2; rw [h2]
end Go.Proofs.Ytfdpigafekohgaa

/- Bytes read again, in plain words. -/
namespace Go.Proofs.Ytfdpigafekohgaa
open Go.RowKit
set_option linter.unusedVariables false
set_option linter.unusedSimpArgs false

/-- The number in bytes. -/
def bign (l : List Int) : Int := l.foldl (fun a x => 256 * a + x % 256) 0
theorem bign_snoc (l : List Int) (x : Int) : bign (l ++ [x]) = 256 * bign l + x % 256 := by simp [bign]
theorem bign_fold (l : List Int) : ∀ a : Int, l.foldl (fun a x => 256 * a + x % 256) a = a * 256 ^ l.length + bign l := by
  induction l with
  | nil => intro a; simp [bign]
  | cons x l ih =>
    intro a
    have h1 := ih (256 * a + x % 256)
    have h2 := ih (256 * 0 + x % 256)
    simp only [List.foldl_cons, List.length_cons, bign] at *
    rw [h1, h2, Int.pow_succ]
    grind
theorem bign_cons (x : Int) (l : List Int) : bign (x :: l) = x % 256 * 256 ^ l.length + bign l := by
  have := bign_fold l (256 * 0 + x % 256)
  show l.foldl _ (256 * 0 + x % 256) = _
  rw [this]; simp
theorem bign_in (l : List Int) : 0 ≤ bign l ∧ bign l < 256 ^ l.length := by
  induction l with
  | nil => simp [bign]
  | cons x l ih =>
    have hp : (0 : Int) < 256 ^ l.length := Int.pow_pos (by omega)
    have h0 : 0 ≤ x % 256 := by omega
    have h1 : x % 256 ≤ 255 := by omega
    have h2 := Int.mul_le_mul_of_nonneg_right h1 (Int.le_of_lt hp)
    have h3 := Int.mul_nonneg h0 (Int.le_of_lt hp)
    rw [bign_cons, List.length_cons, Int.pow_succ]
    generalize x % 256 * 256 ^ l.length = y at *
    omega
theorem bign_le {l : List Int} {n : Nat} (h : l.length ≤ n) (hn : n ≤ 6) : 0 ≤ bign l ∧ bign l < 281474976710656 := by
  have h1 := bign_in l
  have h2 := p256_in (k := l.length) (by omega)
  omega
theorem putB_succ (n : Int) (s : Nat) : putB n (s + 1) = n / 256 ^ s % 256 :: putB n s := by
  unfold putB putTo
  rw [Nat.sub_zero, Nat.sub_zero, List.range_succ_eq_map, List.map_cons, List.map_map]
  congr 1
  apply List.map_congr_left
  intro q hq
  simp only [Function.comp, Nat.succ_eq_add_one]
  rw [show s + 1 - 1 - (q + 1) = s - 1 - q by omega]
theorem bign_putB (n : Int) (h0 : 0 ≤ n) : ∀ s : Nat, bign (putB n s) = n % 256 ^ s
  | 0 => by simp [putB, putTo, bign]
  | s + 1 => by
    rw [putB_succ, bign_cons, bign_putB n h0 s, putB_len]
    have hp : (0 : Int) < 256 ^ s := Int.pow_pos (by omega)
    have e1 : n / 256 ^ s % 256 % 256 = n / 256 ^ s % 256 := by omega
    rw [e1, Int.pow_succ]
    have e2 := Int.emod_add_mul_ediv n (256 ^ s)
    have e3 := Int.emod_add_mul_ediv (n / 256 ^ s) 256
    have e4 := Int.emod_add_mul_ediv n (256 ^ s * 256)
    have e5 : n / (256 ^ s * 256) = n / 256 ^ s / 256 := (Int.ediv_ediv_of_nonneg (Int.le_of_lt hp)).symm
    rw [e5] at e4
    generalize n / 256 ^ s / 256 = d at *
    generalize n / 256 ^ s % 256 = c at *
    generalize n / 256 ^ s = b at *
    generalize (256 : Int) ^ s = P at *
    grind
theorem bign_put {n : Int} {s : Nat} (h0 : 0 ≤ n) (h1 : n < 256 ^ s) : bign (putB n s) = n := by
  rw [bign_putB n h0, Int.emod_eq_of_lt h0 h1]

/-! ### From the front -/
def takeI (xs : List Int) (n : Int) : Int × List Int := if (xs.length : Int) < n then (0, []) else (bign (xs.take n.toNat), xs.drop n.toNat)
theorem takeI_no {xs : List Int} {n : Int} (h : (xs.length : Int) < n) : takeI xs n = (0, []) := if_pos h
theorem takeI_ok {xs : List Int} {n : Int} (h : ¬ (xs.length : Int) < n) : takeI xs n = (bign (xs.take n.toNat), xs.drop n.toNat) := if_neg h
theorem takeI_in {xs : List Int} {n : Int} (h1 : n ≤ 6) : 0 ≤ (takeI xs n).1 ∧ (takeI xs n).1 < 281474976710656 := by
  unfold takeI; split
  · simp
  · exact bign_le (n := n.toNat) (by simp; omega) (by omega)
theorem takeI_one {xs : List Int} : (takeI xs 1).1 ≤ 255 := by
  unfold takeI; split
  · simp
  · have := (bign_in (xs.take (1 : Int).toNat)).2
    have hl : (xs.take (1 : Int).toNat).length ≤ 1 := by simp; omega
    have : (256 : Int) ^ (xs.take (1 : Int).toNat).length ≤ 256 := by
      rcases Nat.le_one_iff_eq_zero_or_eq_one.1 hl with h | h <;> rw [h] <;> decide
    omega
theorem takeI_put {n : Int} {s : Nat} {r : List Int} (h0 : 0 ≤ n) (h1 : n < 256 ^ s) : takeI (putB n s ++ r) s = (n, r) := by
  rw [takeI_ok (by rw [List.length_append, putB_len]; omega), Int.toNat_natCast]
  have : s = (putB n s).length := putB_len.symm
  rw [List.take_append_of_le_length (by omega), List.drop_append_of_le_length (by omega)]
  rw [List.take_of_length_le (by omega), List.drop_eq_nil_of_le (by omega), bign_put h0 h1, List.nil_append]
theorem takeI_byte {n : Int} {r : List Int} (h0 : 0 ≤ n) (h1 : n < 256) : takeI ([n] ++ r) 1 = (n, r) := by
  rw [takeI_ok (by simp; omega)]
  simp [bign]; omega
/-- What is read so many times. -/
def iterG {σ α : Type} (f : σ → α × σ) : Nat → σ → List α × σ
  | 0, s => ([], s)
  | k + 1, s => ((iterG f k s).1 ++ [(f (iterG f k s).2).1], (f (iterG f k s).2).2)
theorem iterG_zero {σ α : Type} {f : σ → α × σ} {s : σ} : iterG f 0 s = ([], s) := rfl
theorem iterG_len {σ α : Type} {f : σ → α × σ} : ∀ {k : Nat} {s : σ}, (iterG f k s).1.length = k
  | 0, s => rfl
  | k + 1, s => by simp [iterG, iterG_len (k := k)]
theorem iterG_front {σ α : Type} {f : σ → α × σ} : ∀ {k : Nat} {s : σ}, iterG f (k + 1) s = ((f s).1 :: (iterG f k (f s).2).1, (iterG f k (f s).2).2)
  | 0, s => rfl
  | k + 1, s => by
    show ((iterG f (k + 1) s).1 ++ [(f (iterG f (k + 1) s).2).1], (f (iterG f (k + 1) s).2).2) = _
    rw [iterG_front (k := k)]
    rfl
theorem iterG_read {σ α β : Type} {f : σ → α × σ} (w : List β → σ) (g : α → List β) : ∀ {xs : List α} {r : List β}, (∀ x ∈ xs, ∀ r, f (w (g x ++ r)) = (x, w r)) → iterG f xs.length (w (xs.flatMap g ++ r)) = (xs, w r)
  | [], r, _ => rfl
  | x :: xs, r, h => by
    rw [List.length_cons, iterG_front, List.flatMap_cons, List.append_assoc, h x (by simp), iterG_read w g fun y hy => h y (by simp [hy])]
theorem bign_next {l : List Int} {k : Nat} (hk : k < l.length) (hx : 0 ≤ l[k] ∧ l[k] ≤ 255) : bign (l.take (k + 1)) = 256 * bign (l.take k) + l[k] := by
  rw [List.take_succ_eq_append_getElem hk, bign_snoc]; omega
theorem iterG_all {σ α : Type} {f : σ → α × σ} (p : α → Prop) (h : ∀ s, p (f s).1) : ∀ {k : Nat} {s : σ}, ∀ x ∈ (iterG f k s).1, p x
  | 0, s, x, hx => by cases hx
  | k + 1, s, x, hx => by
    rcases List.mem_append.1 hx with hx | hx
    · exact iterG_all p h x hx
    · rw [List.mem_singleton.1 hx]; exact h _
/-! ### At a place -/
def getS (b : List Int) (z n : Int) : Int := if z + n ≤ (b.length : Int) then bign ((b.drop z.toNat).take n.toNat) else 0
theorem getS_take {b : List Int} {z n : Int} (h0 : 0 ≤ z) (hn : 0 ≤ n) (h : z ≤ (b.length : Int)) : getS b z n = (takeI (b.drop z.toNat) n).1 := by
  unfold getS takeI
  rw [List.length_drop]
  split
  · rw [if_neg (by omega)]
  · rw [if_pos (by omega)]
theorem getS_in {b : List Int} {z n : Int} (h1 : n ≤ 6) : 0 ≤ getS b z n ∧ getS b z n < 281474976710656 := by
  unfold getS; split
  · exact bign_le (n := n.toNat) (by simp; omega) (by omega)
  · omega
theorem bign_short {l : List Int} {n : Nat} (h : l.length ≤ n) (hn : n ≤ 2) : bign l < 65536 ∧ (n ≤ 1 → bign l < 256) := by
  have h1 := (bign_in l).2
  have h2 : l.length = 0 ∨ l.length = 1 ∨ l.length = 2 := by omega
  rcases h2 with h2 | h2 | h2 <;> rw [h2] at h1
  · have e : (256 : Int) ^ 0 = 1 := rfl
    omega
  · have e : (256 : Int) ^ 1 = 256 := rfl
    omega
  · have e : (256 : Int) ^ 2 = 65536 := rfl
    exact ⟨by omega, fun h => by omega⟩
theorem getS_one {b : List Int} {z : Int} : getS b z 1 ≤ 255 := by
  unfold getS; split
  · have := (bign_short (l := (b.drop z.toNat).take (1 : Int).toNat) (n := 1) (by simp; omega) (by omega)).2 (by omega); omega
  · omega
section
variable {b : List Int}
/-- From place z on there lies r. -/
def Lies (b : List Int) (z : Int) (r : List Int) : Prop := 0 ≤ z ∧ z ≤ (b.length : Int) ∧ b.drop z.toNat = r
theorem Lies.take {z : Int} {n : Int} {s : Nat} {r : List Int} (h : Lies b z (putB n s ++ r)) (h0 : 0 ≤ n) (h1 : n < 256 ^ s) : getS b z s = n ∧ Lies b (z + s) r := by
  have h2 := takeI_put (r := r) h0 h1
  have hl := congrArg List.length h.2.2
  rw [List.length_drop, List.length_append, putB_len] at hl
  refine ⟨by rw [getS_take h.1 (by omega) h.2.1, h.2.2, h2], by have := h.1; omega, by have := h.1; have := h.2.1; omega, ?_⟩
  have e : (z + (s : Int)).toNat = z.toNat + s := by have := h.1; omega
  rw [e, ← List.drop_drop, h.2.2]
  have : s = (putB n s).length := putB_len.symm
  conv => lhs; rw [this]
  rw [putB_len]
  exact List.drop_left' putB_len
theorem Lies.byte {z n : Int} {r : List Int} (h : Lies b z ([n] ++ r)) (h0 : 0 ≤ n) (h1 : n < 256) : getS b z 1 = n ∧ Lies b (z + 1) r := by
  have e : putB n 1 = [n] := by
    have : putB n 1 = [n % 256] := by simp [putB, putTo, List.range_succ]
    rw [this, show n % 256 = n by omega]
  rw [← e] at h
  exact h.take (s := 1) h0 h1
end
end Go.Proofs.Ytfdpigafekohgaa

/- Messages read out of bytes, in plain words. -/
namespace Go.Proofs.Ytfdpigafekohgaa
open Go.RowKit
set_option linter.unusedVariables false
set_option linter.unusedSimpArgs false

/-! ### From the front -/
def pairI (r : List Int) : (Int × Int) × List Int := (((takeI r 6).1, (takeI (takeI r 6).2 6).1), (takeI (takeI r 6).2 6).2)
def actI (r : List Int) : Actt × List Int := (⟨(takeI r 1).1, (takeI (takeI r 1).2 1).1, (takeI (takeI (takeI r 1).2 1).2 6).1⟩, (takeI (takeI (takeI r 1).2 1).2 6).2)
def mrA (r : List Int) : Int × List Int := takeI r 4
def mrB (r : List Int) : Int × List Int := takeI (mrA r).2 2
def mrC (r : List Int) (k : Nat) : List (Int × Int) × List Int := iterG pairI k (mrB r).2
def mrD (r : List Int) : Int × List Int := takeI (mrC r 8).2 1
def mrE (r : List Int) (k : Nat) : List Actt × List Int := iterG actI k (mrD r).2
def mrH (r : List Int) (k : Nat) : List Int × List Int := iterG (fun q => takeI q 6) k (takeI r 1).2
def kindOf (b : List Int) : Int := b.getD 1 0
def sesOf (b : List Int) : Int := bign ((b.drop 4).take 4)
def xidOf (b : List Int) : Int := bign ((b.drop 8).take 4)
def lenOf (b : List Int) : Int := bign ((b.drop 2).take 2)
def plainM (b : List Int) : Msgt := ⟨kindOf b, sesOf b, xidOf b, 0, 0, ⟨[], []⟩, [], false, ⟨[]⟩⟩
def msgI (b : List Int) : Msgt :=
  if kindOf b = 2 then ⟨kindOf b, sesOf b, xidOf b, (mrA (b.drop 12)).1, (mrB (b.drop 12)).1, ⟨(mrC (b.drop 12) 8).1.map Prod.fst, (mrC (b.drop 12) 8).1.map Prod.snd⟩, (mrE (b.drop 12) (mrD (b.drop 12)).1.toNat).1, false, ⟨[]⟩⟩
  else if kindOf b = 3 then ⟨kindOf b, sesOf b, xidOf b, (takeI (b.drop 12) 4).1, 0, ⟨[], []⟩, [], false, ⟨[]⟩⟩
  else if kindOf b = 5 then ⟨kindOf b, sesOf b, xidOf b, 0, 0, ⟨[], []⟩, [], decide ((takeI (b.drop 12) 1).1 = 1), ⟨(mrH (b.drop 12) 8).1⟩⟩
  else plainM b
theorem msgI_add {b : List Int} (h : kindOf b = 2) : msgI b = ⟨kindOf b, sesOf b, xidOf b, (mrA (b.drop 12)).1, (mrB (b.drop 12)).1, ⟨(mrC (b.drop 12) 8).1.map Prod.fst, (mrC (b.drop 12) 8).1.map Prod.snd⟩, (mrE (b.drop 12) (mrD (b.drop 12)).1.toNat).1, false, ⟨[]⟩⟩ := if_pos h
theorem msgI_flip {b : List Int} (h : kindOf b = 3) : msgI b = ⟨kindOf b, sesOf b, xidOf b, (takeI (b.drop 12) 4).1, 0, ⟨[], []⟩, [], false, ⟨[]⟩⟩ := by unfold msgI; rw [if_neg (by omega), if_pos h]
theorem msgI_note {b : List Int} (h : kindOf b = 5) : msgI b = ⟨kindOf b, sesOf b, xidOf b, 0, 0, ⟨[], []⟩, [], decide ((takeI (b.drop 12) 1).1 = 1), ⟨(mrH (b.drop 12) 8).1⟩⟩ := by unfold msgI; rw [if_neg (by omega), if_neg (by omega), if_pos h]
theorem msgI_none {b : List Int} (h2 : ¬ kindOf b = 2) (h3 : ¬ kindOf b = 3) (h5 : ¬ kindOf b = 5) : msgI b = plainM b := by unfold msgI; rw [if_neg h2, if_neg h3, if_neg h5]
theorem pairs_v {s : List Int} {k : Nat} : (iterG pairI k s).1.map Prod.fst ++ [(takeI (iterG pairI k s).2 6).1] = (iterG pairI (k + 1) s).1.map Prod.fst := by simp [iterG, pairI]
theorem pairs_m {s : List Int} {k : Nat} : (iterG pairI k s).1.map Prod.snd ++ [(takeI (takeI (iterG pairI k s).2 6).2 6).1] = (iterG pairI (k + 1) s).1.map Prod.snd := by simp [iterG, pairI]

/-! ### From places -/
def actS (b : List Int) (i : Nat) : Actt := ⟨getS b (115 + 8 * (i : Int)) 1, getS b (115 + 8 * (i : Int) + 1) 1, getS b (115 + 8 * (i : Int) + 2) 6⟩
def sV (b : List Int) : List Int := (List.range 8).map fun (f : Nat) => getS b (18 + 12 * (f : Int)) 6
def sM (b : List Int) : List Int := (List.range 8).map fun (f : Nat) => getS b (24 + 12 * (f : Int)) 6
def sH (b : List Int) (k : Nat) : List Int := (List.range k).map fun (f : Nat) => getS b (13 + 6 * (f : Int)) 6
def sActs (b : List Int) (k : Nat) : List Actt := (List.range k).map (actS b)
def sN (b : List Int) : Nat := (min (getS b 114 1) 13).toNat
def handS (b : List Int) : Bool := decide (12 < b.length ∧ b.getD 12 0 = 1)
def msgS (b : List Int) : Msgt :=
  if kindOf b = 2 then ⟨kindOf b, getS b 4 4, getS b 8 4, getS b 12 4, getS b 16 2, ⟨sV b, sM b⟩, sActs b (sN b), false, ⟨[]⟩⟩
  else if kindOf b = 3 then ⟨kindOf b, getS b 4 4, getS b 8 4, getS b 12 4, 0, ⟨[], []⟩, [], false, ⟨[]⟩⟩
  else if kindOf b = 5 then ⟨kindOf b, getS b 4 4, getS b 8 4, 0, 0, ⟨[], []⟩, [], handS b, ⟨sH b 8⟩⟩
  else ⟨kindOf b, getS b 4 4, getS b 8 4, 0, 0, ⟨[], []⟩, [], false, ⟨[]⟩⟩
theorem msgS_add {b : List Int} (h : kindOf b = 2) : msgS b = ⟨kindOf b, getS b 4 4, getS b 8 4, getS b 12 4, getS b 16 2, ⟨sV b, sM b⟩, sActs b (sN b), false, ⟨[]⟩⟩ := if_pos h
theorem msgS_flip {b : List Int} (h : kindOf b = 3) : msgS b = ⟨kindOf b, getS b 4 4, getS b 8 4, getS b 12 4, 0, ⟨[], []⟩, [], false, ⟨[]⟩⟩ := by unfold msgS; rw [if_neg (by omega), if_pos h]
theorem msgS_note {b : List Int} (h : kindOf b = 5) : msgS b = ⟨kindOf b, getS b 4 4, getS b 8 4, 0, 0, ⟨[], []⟩, [], handS b, ⟨sH b 8⟩⟩ := by unfold msgS; rw [if_neg (by omega), if_neg (by omega), if_pos h]
theorem msgS_none {b : List Int} (h2 : ¬ kindOf b = 2) (h3 : ¬ kindOf b = 3) (h5 : ¬ kindOf b = 5) : msgS b = ⟨kindOf b, getS b 4 4, getS b 8 4, 0, 0, ⟨[], []⟩, [], false, ⟨[]⟩⟩ := by unfold msgS; rw [if_neg h2, if_neg h3, if_neg h5]
theorem sActs_more {b : List Int} {k : Nat} : sActs b k ++ [actS b k] = sActs b (k + 1) := by simp [sActs, List.range_succ]
theorem sActs_len {b : List Int} {k : Nat} : (sActs b k).length = k := by simp [sActs]
theorem sH_more {b : List Int} {k : Nat} : sH b k ++ [getS b (13 + 6 * (k : Int)) 6] = sH b (k + 1) := by simp [sH, List.range_succ]
theorem sH_len {b : List Int} {k : Nat} : (sH b k).length = k := by simp [sH]

/-! ### What was written is read -/
theorem flat_len {α : Type} {g : α → List Int} {s : Nat} (hg : ∀ x, (g x).length = s) : ∀ xs : List α, (xs.flatMap g).length = s * xs.length
  | [] => rfl
  | x :: xs => by rw [List.flatMap_cons, List.length_append, hg, flat_len hg xs, List.length_cons, Nat.mul_succ]; omega
theorem Lies.skip {α : Type} {b r : List Int} {z : Int} {g : α → List Int} {s : Nat} {xs : List α} (hg : ∀ x, (g x).length = s) (h : Lies b z (xs.flatMap g ++ r)) {k : Nat} (hk : k ≤ xs.length) : Lies b (z + (s : Int) * (k : Int)) ((xs.drop k).flatMap g ++ r) := by
  have e : xs.flatMap g ++ r = (xs.take k).flatMap g ++ ((xs.drop k).flatMap g ++ r) := by rw [← List.append_assoc, ← List.flatMap_append, List.take_append_drop]
  have hl : ((xs.take k).flatMap g).length = s * k := by rw [flat_len hg, List.length_take, Nat.min_eq_left hk]
  obtain ⟨h0, h1, h2⟩ := h
  rw [e] at h2
  have h3 := congrArg List.length h2
  rw [List.length_drop, List.length_append, hl] at h3
  have ec : ((s * k : Nat) : Int) = (s : Int) * (k : Int) := by push_cast; rfl
  refine ⟨by omega, by omega, ?_⟩
  rw [show (z + (s : Int) * (k : Int)).toNat = z.toNat + s * k by omega, ← List.drop_drop, h2]
  exact List.drop_left' hl
def pairsOf (m : Matcht) : List (Int × Int) := (List.range 8).map fun f => (m.v.getD f 0, m.m.getD f 0)
def pairBy (p : Int × Int) : List Int := putB p.1 6 ++ putB p.2 6
theorem pairTo_flat (m : Matcht) : pairTo m 8 = (pairsOf m).flatMap pairBy := by
  unfold pairTo pairsOf
  rw [List.flatMap_map]; rfl
theorem eight_list {l : List Int} (h : l.length = 8) : (List.range 8).map (fun f => l.getD f 0) = l := by
  refine List.ext_getElem (by simp [h]) fun i h1 h2 => ?_
  simp [List.getD, h2]
theorem pairsOf_v {m : Matcht} (h : m.v.length = 8) : (pairsOf m).map Prod.fst = m.v := by
  unfold pairsOf; rw [List.map_map]; exact eight_list h
theorem pairsOf_m {m : Matcht} (h : m.m.length = 8) : (pairsOf m).map Prod.snd = m.m := by
  unfold pairsOf; rw [List.map_map]; exact eight_list h
theorem pairBy_len (p : Int × Int) : (pairBy p).length = 12 := by simp [pairBy, putB_len]
theorem actBytes_len (a : Actt) : (actBytes a).length = 8 := by simp [actBytes, putB_len]
theorem p6 : (256 : Int) ^ 6 = 281474976710656 := rfl
theorem p4 : (256 : Int) ^ 4 = 4294967296 := rfl
theorem p2 : (256 : Int) ^ 2 = 65536 := rfl
theorem pairsOf_in {m : Matcht} (h : matchB m = true) (hm : ∀ x ∈ m.v, x ≤ 9223372036854775807) : ∀ p ∈ pairsOf m, (0 ≤ p.1 ∧ p.1 < 256 ^ 6) ∧ 0 ≤ p.2 ∧ p.2 < 256 ^ 6 := fun p hp => by
  unfold pairsOf at hp
  obtain ⟨f, hf, rfl⟩ := List.mem_map.1 hp
  obtain ⟨h1, h2, h3, h4⟩ := matchB_get h hm (k := f) (by simpa using hf)
  simp only [List.getD, h1, h2, List.getElem?_eq_getElem, Option.getD_some, p6]
  omega
theorem matchB_8 {m : Matcht} (h : matchB m = true) : m.v.length = 8 ∧ m.m.length = 8 := by
  simp only [matchB, Bool.and_eq_true, decide_eq_true_eq] at h
  exact ⟨h.1, eight_8 h.2.1⟩
theorem pairI_read {p : Int × Int} (h : (0 ≤ p.1 ∧ p.1 < 256 ^ 6) ∧ 0 ≤ p.2 ∧ p.2 < 256 ^ 6) (r : List Int) : pairI (pairBy p ++ r) = (p, r) := by
  have e1 := takeI_put (s := 6) (r := putB p.2 6 ++ r) h.1.1 h.1.2
  have e2 := takeI_put (s := 6) (r := r) h.2.1 h.2.2
  rw [show ((6 : Nat) : Int) = 6 from rfl] at e1 e2
  unfold pairI pairBy
  rw [List.append_assoc, e1]
  simp only
  rw [e2]
theorem actI_read {a : Actt} (h : actB a = true) (r : List Int) : actI (actBytes a ++ r) = (a, r) := by
  have hb := actB_in h
  have e1 := takeI_byte (n := a.kind) (r := [a.a] ++ putB a.b 6 ++ r) (by omega) (by omega)
  have e2 := takeI_byte (n := a.a) (r := putB a.b 6 ++ r) (by omega) (by omega)
  have e3 := takeI_put (s := 6) (n := a.b) (r := r) (by omega) (by rw [p6]; omega)
  rw [show ((6 : Nat) : Int) = 6 from rfl] at e3
  have e0 : actBytes a ++ r = [a.kind] ++ ([a.a] ++ putB a.b 6 ++ r) := by simp [actBytes]
  unfold actI
  rw [e0, e1]
  simp only
  rw [List.append_assoc, e2]
  simp only
  rw [e3]
theorem fits_in {l : List Int} (h : eight l = true) : ∀ x ∈ l, 0 ≤ x ∧ x < 256 ^ 6 := fun x hx => by
  obtain ⟨j, hj, rfl⟩ := List.getElem_of_mem hx
  have := fits48 (eight_get h hj)
  rw [p6]; omega
structure Head12 (b : List Int) (m : Msgt) : Prop where
  len : (b.length : Int) = 12 + ((bodyB m).length : Int)
  kind : kindOf b = m.kind
  ses : sesOf b = m.session
  xid : xidOf b = m.xid
  rest : b.drop 12 = bodyB m
  ver : b.getD 0 0 = 1
  long : lenOf b = (b.length : Int)
theorem whole_head {m : Msgt} (h : msgB m = true) : Head12 (wholeB m) m := by
  have hi := (msgB_in h).1
  have hl : ((wholeB m).length : Int) = 12 + ((bodyB m).length : Int) := by
    simp only [wholeB, List.length_append, List.length_cons, List.length_nil, putB_len]; omega
  have hb := bodyB_len h
  have e2 : (wholeB m).drop 2 = putB (12 + ((bodyB m).length : Int)) 2 ++ (putB m.session 4 ++ putB m.xid 4 ++ bodyB m) := by simp [wholeB]
  have e4 : (wholeB m).drop 4 = putB m.session 4 ++ (putB m.xid 4 ++ bodyB m) := by
    rw [show (4 : Nat) = 2 + 2 from rfl, ← List.drop_drop, e2, List.drop_left' putB_len, List.append_assoc]
  have e8 : (wholeB m).drop 8 = putB m.xid 4 ++ bodyB m := by
    rw [show (8 : Nat) = 4 + 4 from rfl, ← List.drop_drop, e4, List.drop_left' putB_len]
  have e12 : (wholeB m).drop 12 = bodyB m := by
    rw [show (12 : Nat) = 8 + 4 from rfl, ← List.drop_drop, e8, List.drop_left' putB_len]
  refine ⟨hl, by simp [kindOf, wholeB], ?_, ?_, e12, by simp [wholeB], ?_⟩
  · unfold sesOf; rw [e4, List.take_left' putB_len]; exact bign_put (by omega) (by rw [p4]; omega)
  · unfold xidOf; rw [e8, List.take_left' putB_len]; exact bign_put (by omega) (by rw [p4]; omega)
  · unfold lenOf; rw [e2, List.take_left' putB_len, hl]; exact bign_put (by omega) (by rw [p2]; omega)
theorem len0 {α : Type} {l : List α} (h : l.length = 0) : l = [] := List.eq_nil_of_length_eq_zero h
theorem msgB_rest {m : Msgt} (h : msgB m = true) : (m.kind = 2 → m.hand = false ∧ m.head.v = []) ∧ (m.kind = 3 → m.prio = 0 ∧ m.mat.v = [] ∧ m.mat.m = [] ∧ m.acts = [] ∧ m.hand = false ∧ m.head.v = []) ∧ (m.kind = 5 → m.epoch = 0 ∧ m.prio = 0 ∧ m.mat.v = [] ∧ m.mat.m = [] ∧ m.acts = [])
    ∧ (m.kind = 1 ∨ m.kind = 4 ∨ m.kind = 6 → m.epoch = 0 ∧ m.prio = 0 ∧ m.mat.v = [] ∧ m.mat.m = [] ∧ m.acts = [] ∧ m.hand = false ∧ m.head.v = []) := by
  unfold msgB at h
  simp only [Bool.and_eq_true] at h
  obtain ⟨_, h⟩ := h
  simp only [noAddB, noNoteB] at h
  refine ⟨fun e => ?_, fun e => ?_, fun e => ?_, fun e => ?_⟩
  · rw [if_neg (by omega), if_pos e] at h
    simp only [Bool.and_eq_true, decide_eq_true_eq, Bool.not_eq_true'] at h
    exact ⟨h.2.1, len0 h.2.2⟩
  · rw [if_neg (by omega), if_neg (by omega), if_pos e] at h
    simp only [Bool.and_eq_true, decide_eq_true_eq, Bool.not_eq_true'] at h
    exact ⟨h.2.1.1, len0 h.2.1.2.1, len0 h.2.1.2.2.1, len0 h.2.1.2.2.2, h.2.2.1, len0 h.2.2.2⟩
  · rw [if_neg (by omega), if_neg (by omega), if_neg (by omega), if_pos e] at h
    simp only [Bool.and_eq_true, decide_eq_true_eq, Bool.not_eq_true'] at h
    exact ⟨h.1, h.2.1.1, len0 h.2.1.2.1, len0 h.2.1.2.2.1, len0 h.2.1.2.2.2⟩
  · rw [if_pos e] at h
    simp only [Bool.and_eq_true, decide_eq_true_eq, Bool.not_eq_true'] at h
    exact ⟨h.1, h.2.1.1, len0 h.2.1.2.1, len0 h.2.1.2.2.1, len0 h.2.1.2.2.2, h.2.2.1, len0 h.2.2.2⟩
theorem handB_read (x : Bool) : decide (handB x = 1) = x := by cases x <;> rfl
theorem msgBytes_yes {m : Msgt} {b : List Int} (h : msgBytes m = (b, true)) : msgB m = true ∧ b = wholeB m := by
  unfold msgBytes at h
  split at h
  · rename_i h1
    cases h; exact ⟨h1, rfl⟩
  · cases h
theorem kinds6 {m : Msgt} (h : msgB m = true) (h2 : ¬ m.kind = 2) (h3 : ¬ m.kind = 3) (h5 : ¬ m.kind = 5) : m.kind = 1 ∨ m.kind = 4 ∨ m.kind = 6 := by
  have := (msgB_in h).1; omega
theorem msgI_read {m : Msgt} {b : List Int} (h : msgBytes m = (b, true)) (hv : ∀ x ∈ m.mat.v, x ≤ 9223372036854775807) : msgI b = m := by
  obtain ⟨hB, rfl⟩ := msgBytes_yes h
  have H := whole_head hB
  obtain ⟨hi, hA, hF, hN⟩ := msgB_in hB
  obtain ⟨r2, r3, r5, r1⟩ := msgB_rest hB
  have hE := msgB_ep hB
  by_cases k2 : m.kind = 2
  · obtain ⟨a1, a2, a3⟩ := hA k2
    have m8 := matchB_8 a2
    have pin := pairsOf_in a2 hv
    rw [msgI_add (by rw [H.kind]; exact k2), H.rest, bodyB_add k2, pairTo_flat]
    have e1 := takeI_put (n := m.epoch) (s := 4) (r := putB m.prio 2 ++ ((pairsOf m.mat).flatMap pairBy ++ ([(m.acts.length : Int)] ++ m.acts.flatMap actBytes))) (by omega) (by rw [p4]; omega)
    have e2 := takeI_put (n := m.prio) (s := 2) (r := (pairsOf m.mat).flatMap pairBy ++ ([(m.acts.length : Int)] ++ m.acts.flatMap actBytes)) (by omega) (by rw [p2]; omega)
    have e3 := iterG_read (f := pairI) (fun q : List Int => q) pairBy (xs := pairsOf m.mat) (r := [(m.acts.length : Int)] ++ m.acts.flatMap actBytes) fun p hp r => pairI_read (pin p hp) r
    have l8 : (pairsOf m.mat).length = 8 := by simp [pairsOf]
    have a12 := actsB_12 a3
    have e4 := takeI_byte (n := (m.acts.length : Int)) (r := m.acts.flatMap actBytes) (by omega) (by omega)
    have e5 := iterG_read (f := actI) (fun q : List Int => q) actBytes (xs := m.acts) (r := []) fun a ha r => by
      obtain ⟨j, hj, rfl⟩ := List.getElem_of_mem ha
      exact actI_read (actsB_get a3 hj) r
    rw [List.append_nil] at e5
    rw [show ((4 : Nat) : Int) = 4 from rfl] at e1
    rw [show ((2 : Nat) : Int) = 2 from rfl] at e2
    rw [l8] at e3
    have ea : putB m.epoch 4 ++ putB m.prio 2 ++ (pairsOf m.mat).flatMap pairBy ++ [(m.acts.length : Int)] ++ m.acts.flatMap actBytes = putB m.epoch 4 ++ (putB m.prio 2 ++ ((pairsOf m.mat).flatMap pairBy ++ ([(m.acts.length : Int)] ++ m.acts.flatMap actBytes))) := by simp only [List.append_assoc]
    unfold mrE mrD mrC mrB mrA
    rw [ea, e1]
    simp only
    rw [e2]
    simp only
    rw [e3]
    simp only
    rw [e4]
    simp only [Int.toNat_natCast]
    rw [e5, pairsOf_v m8.1, pairsOf_m m8.2, H.kind, H.ses, H.xid]
    obtain ⟨q1, q2⟩ := r2 k2
    obtain ⟨kd, ses, xd, ep, pr, ⟨v, mm⟩, ac, hd, ⟨hv8⟩⟩ := m
    simp only at q1 q2 ⊢
    rw [q1, q2]
  · by_cases k3 : m.kind = 3
    · have e1 := takeI_put (n := m.epoch) (s := 4) (r := []) (by have := hE (.inr k3); omega) (by rw [p4]; have := hE (.inr k3); omega)
      rw [List.append_nil, show ((4 : Nat) : Int) = 4 from rfl] at e1
      rw [msgI_flip (by rw [H.kind]; exact k3), H.rest, bodyB_flip k3, e1, H.kind, H.ses, H.xid]
      obtain ⟨q1, q2, q3, q4, q5, q6⟩ := r3 k3
      obtain ⟨kd, ses, xd, ep, pr, ⟨v, mm⟩, ac, hd, ⟨hv8⟩⟩ := m
      simp only at q1 q2 q3 q4 q5 q6 ⊢
      rw [q1, q2, q3, q4, q5, q6]
    · by_cases k5 : m.kind = 5
      · have n5 := hN k5
        have e0 : handB m.hand = 0 ∨ handB m.hand = 1 := by unfold handB; split <;> simp
        have e1 := takeI_byte (n := handB m.hand) (r := headBy m.head.v) (by omega) (by omega)
        have e2 := iterG_read (f := fun q => takeI q 6) (fun q : List Int => q) (fun n => putB n 6) (xs := m.head.v) (r := []) fun x hx r => by
          have := fits_in n5 x hx
          exact takeI_put (s := 6) this.1 this.2
        rw [List.append_nil, eight_8 n5] at e2
        rw [msgI_note (by rw [H.kind]; exact k5), H.rest, bodyB_note k5]
        unfold mrH
        rw [e1]
        simp only
        rw [handB_read]
        unfold headBy
        rw [e2, H.kind, H.ses, H.xid]
        obtain ⟨q1, q2, q3, q4, q5⟩ := r5 k5
        obtain ⟨kd, ses, xd, ep, pr, ⟨v, mm⟩, ac, hd, ⟨hv8⟩⟩ := m
        simp only at q1 q2 q3 q4 q5 ⊢
        rw [q1, q2, q3, q4, q5]
      · rw [msgI_none (by rw [H.kind]; exact k2) (by rw [H.kind]; exact k3) (by rw [H.kind]; exact k5)]
        unfold plainM
        rw [H.kind, H.ses, H.xid]
        obtain ⟨q1, q2, q3, q4, q5, q6, q7⟩ := r1 (kinds6 hB k2 k3 k5)
        obtain ⟨kd, ses, xd, ep, pr, ⟨v, mm⟩, ac, hd, ⟨hv8⟩⟩ := m
        simp only at q1 q2 q3 q4 q5 q6 q7 ⊢
        rw [q1, q2, q3, q4, q5, q6, q7]
theorem head_lies {m : Msgt} (h : msgB m = true) : getS (wholeB m) 4 4 = m.session ∧ getS (wholeB m) 8 4 = m.xid ∧ Lies (wholeB m) 12 (bodyB m) := by
  have hi := (msgB_in h).1
  have hb := bodyB_len h
  have l0 : Lies (wholeB m) 2 (putB (12 + ((bodyB m).length : Int)) 2 ++ (putB m.session 4 ++ (putB m.xid 4 ++ bodyB m))) := ⟨by omega, by simp only [wholeB, List.length_append, List.length_cons, List.length_nil, putB_len]; omega, by simp [wholeB]⟩
  obtain ⟨_, l1⟩ := l0.take (by omega) (by rw [p2]; omega)
  obtain ⟨s1, l2⟩ := l1.take (by omega) (by rw [p4]; omega)
  obtain ⟨s2, l3⟩ := l2.take (by omega) (by rw [p4]; omega)
  exact ⟨s1, s2, l3⟩
theorem msgS_read {m : Msgt} {b : List Int} (h : msgBytes m = (b, true)) (hv : ∀ x ∈ m.mat.v, x ≤ 9223372036854775807) : msgS b = m := by
  obtain ⟨hB, rfl⟩ := msgBytes_yes h
  have H := whole_head hB
  obtain ⟨g1, g2, hL⟩ := head_lies hB
  obtain ⟨hi, hA, hF, hN⟩ := msgB_in hB
  obtain ⟨r2, r3, r5, r1⟩ := msgB_rest hB
  have hE := msgB_ep hB
  generalize hb : wholeB m = b at *
  by_cases k2 : m.kind = 2
  · obtain ⟨a1, a2, a3⟩ := hA k2
    have m8 := matchB_8 a2
    have pin := pairsOf_in a2 hv
    have a12 := actsB_12 a3
    rw [bodyB_add k2, pairTo_flat] at hL
    simp only [List.append_assoc] at hL
    obtain ⟨s1, l1⟩ := hL.take (s := 4) (by omega) (by rw [p4]; omega)
    obtain ⟨s2, l2⟩ := l1.take (s := 2) (by omega) (by rw [p2]; omega)
    have l8 : (pairsOf m.mat).length = 8 := by simp [pairsOf]
    have lp : ∀ (k : Nat) (hk : k < 8), getS b (18 + 12 * (k : Int)) 6 = ((pairsOf m.mat)[k]'(by omega)).1 ∧ getS b (24 + 12 * (k : Int)) 6 = ((pairsOf m.mat)[k]'(by omega)).2 := fun k hk => by
      have l3 := l2.skip pairBy_len (k := k) (by omega)
      rw [List.drop_eq_getElem_cons (by omega), List.flatMap_cons, List.append_assoc] at l3
      unfold pairBy at l3
      rw [List.append_assoc] at l3
      have hin := pin _ (List.getElem_mem (l := pairsOf m.mat) (n := k) (by omega))
      obtain ⟨t1, l4⟩ := l3.take (s := 6) hin.1.1 hin.1.2
      obtain ⟨t2, _⟩ := l4.take (s := 6) hin.2.1 hin.2.2
      refine ⟨?_, ?_⟩
      · rw [← t1]; congr 1
      · rw [← t2]; congr 1; omega
    have l5 := l2.skip pairBy_len (k := 8) (by omega)
    rw [List.drop_eq_nil_of_le (by omega), List.flatMap_nil, List.nil_append] at l5
    obtain ⟨s3, l6⟩ := l5.byte (by omega) (by omega)
    have la : ∀ (k : Nat) (hk : k < m.acts.length), actS b k = m.acts[k] := fun k hk => by
      rw [← List.append_nil (m.acts.flatMap actBytes)] at l6
      have l7 := l6.skip actBytes_len (k := k) (by omega)
      rw [List.drop_eq_getElem_cons hk, List.flatMap_cons] at l7
      have hab := actB_in (actsB_get a3 hk)
      have e0 : actBytes m.acts[k] ++ (m.acts.drop (k + 1)).flatMap actBytes ++ [] = [m.acts[k].kind] ++ ([m.acts[k].a] ++ (putB m.acts[k].b 6 ++ (m.acts.drop (k + 1)).flatMap actBytes)) := by simp [actBytes]
      rw [e0] at l7
      obtain ⟨t1, l8⟩ := l7.byte (by omega) (by omega)
      obtain ⟨t2, l9⟩ := l8.byte (by omega) (by omega)
      obtain ⟨t3, _⟩ := l9.take (s := 6) (by omega) (by rw [p6]; omega)
      have z1 : (12 : Int) + (4 : Nat) + (2 : Nat) + (12 : Nat) * (8 : Nat) + 1 + (8 : Nat) * (k : Int) = 115 + 8 * (k : Int) := by omega
      rw [z1] at t1 t2 t3
      unfold actS
      rw [t1, t2, show (115 + 8 * (k : Int) + 2) = 115 + 8 * (k : Int) + 1 + 1 by omega]
      rw [show ((6 : Nat) : Int) = 6 from rfl] at t3
      rw [t3]
    have z2 : (12 : Int) + (4 : Nat) + (2 : Nat) + (12 : Nat) * (8 : Nat) = 114 := by decide
    rw [z2] at s3
    have hn : sN b = m.acts.length := by unfold sN; rw [s3]; omega
    have hac : sActs b m.acts.length = m.acts := List.ext_getElem (by simp [sActs]) fun i h1 h2 => by
      simp only [sActs, List.getElem_map, List.getElem_range]; exact la i h2
    have hsv : sV b = m.mat.v := by
      rw [← pairsOf_v m8.1]
      refine List.ext_getElem (by simp [sV, l8]) fun i h1 h2 => ?_
      simp only [sV, List.getElem_map, List.getElem_range]
      exact (lp i (by simpa [sV] using h1)).1
    have hsm : sM b = m.mat.m := by
      rw [← pairsOf_m m8.2]
      refine List.ext_getElem (by simp [sM, l8]) fun i h1 h2 => ?_
      simp only [sM, List.getElem_map, List.getElem_range]
      exact (lp i (by simpa [sM] using h1)).2
    rw [msgS_add (by rw [H.kind]; exact k2), hn, hac, hsv, hsm, H.kind, g1, g2]
    have s1' : getS b 12 4 = m.epoch := s1
    have s2' : getS b 16 2 = m.prio := s2
    rw [s1', s2']
    obtain ⟨q1, q2⟩ := r2 k2
    obtain ⟨kd, ses, xd, ep, pr, ⟨v, mm⟩, ac, hd, ⟨hv8⟩⟩ := m
    simp only at q1 q2 ⊢
    rw [q1, q2]
  · by_cases k3 : m.kind = 3
    · rw [bodyB_flip k3, ← List.append_nil (putB m.epoch 4)] at hL
      obtain ⟨s1, _⟩ := hL.take (s := 4) (by have := hE (.inr k3); omega) (by rw [p4]; have := hE (.inr k3); omega)
      have s1' : getS b 12 4 = m.epoch := s1
      rw [msgS_flip (by rw [H.kind]; exact k3), s1', H.kind, g1, g2]
      obtain ⟨q1, q2, q3, q4, q5, q6⟩ := r3 k3
      obtain ⟨kd, ses, xd, ep, pr, ⟨v, mm⟩, ac, hd, ⟨hv8⟩⟩ := m
      simp only at q1 q2 q3 q4 q5 q6 ⊢
      rw [q1, q2, q3, q4, q5, q6]
    · by_cases k5 : m.kind = 5
      · have n5 := hN k5
        have e0 : handB m.hand = 0 ∨ handB m.hand = 1 := by unfold handB; split <;> simp
        rw [bodyB_note k5] at hL
        have hd : b.getD 12 0 = handB m.hand ∧ 12 < b.length := by
          have hl := hL.2.2
          rw [show (12 : Int).toNat = 12 from rfl] at hl
          have hlen : 12 < b.length := by
            have := congrArg List.length hl
            rw [List.length_drop] at this
            simp at this; omega
          rw [List.drop_eq_getElem_cons hlen] at hl
          injection hl with hl _
          refine ⟨?_, hlen⟩
          simp [List.getD, hlen, hl]
        have hh : handS b = m.hand := by
          unfold handS
          rw [hd.1]
          have := hd.2
          cases m.hand <;> simp [handB, this]
        obtain ⟨_, l1⟩ := hL.byte (by omega) (by omega)
        unfold headBy at l1
        have l8 := eight_8 n5
        have lp : ∀ (k : Nat) (hk : k < 8), getS b (13 + 6 * (k : Int)) 6 = m.head.v[k]'(by omega) := fun k hk => by
          rw [← List.append_nil (m.head.v.flatMap _)] at l1
          have l3 := l1.skip (s := 6) (fun x => putB_len) (k := k) (by omega)
          rw [List.drop_eq_getElem_cons (by omega), List.flatMap_cons, List.append_assoc] at l3
          have hin := fits_in n5 _ (List.getElem_mem (l := m.head.v) (n := k) (by omega))
          obtain ⟨t1, _⟩ := l3.take (s := 6) hin.1 hin.2
          rw [← t1]; congr 1
        have hsh : sH b 8 = m.head.v := List.ext_getElem (by simp [sH, l8]) fun i h1 h2 => by
          simp only [sH, List.getElem_map, List.getElem_range]; exact lp i (by omega)
        rw [msgS_note (by rw [H.kind]; exact k5), hsh, hh, H.kind, g1, g2]
        obtain ⟨q1, q2, q3, q4, q5⟩ := r5 k5
        obtain ⟨kd, ses, xd, ep, pr, ⟨v, mm⟩, ac, hd, ⟨hv8⟩⟩ := m
        simp only at q1 q2 q3 q4 q5 ⊢
        rw [q1, q2, q3, q4, q5]
      · rw [msgS_none (by rw [H.kind]; exact k2) (by rw [H.kind]; exact k3) (by rw [H.kind]; exact k5)]
        rw [H.kind, g1, g2]
        obtain ⟨q1, q2, q3, q4, q5, q6, q7⟩ := r1 (kinds6 hB k2 k3 k5)
        obtain ⟨kd, ses, xd, ep, pr, ⟨v, mm⟩, ac, hd, ⟨hv8⟩⟩ := m
        simp only at q1 q2 q3 q4 q5 q6 q7 ⊢
        rw [q1, q2, q3, q4, q5, q6, q7]

/-! ### The answer -/
def zeroM : Msgt := ⟨0, 0, 0, 0, 0, ⟨[], []⟩, [], false, ⟨[]⟩⟩
def msgRead (b : List Int) : Msgt × Int :=
  if b.length < 12 ∨ 300 < b.length then (zeroM, 1) else if ¬ b.getD 0 0 = 1 then (zeroM, 2) else if ¬ lenOf b = (b.length : Int) then (zeroM, 3)
  else if kindOf b < 1 ∨ 6 < kindOf b then (zeroM, 4) else if msgBytes (msgI b) = (b, true) then (msgI b, 0) else (zeroM, 5)
theorem msgRead_1 {b : List Int} (h : b.length < 12 ∨ 300 < b.length) : msgRead b = (zeroM, 1) := if_pos h
theorem msgRead_2 {b : List Int} (h1 : ¬ (b.length < 12 ∨ 300 < b.length)) (h : ¬ b.getD 0 0 = 1) : msgRead b = (zeroM, 2) := by unfold msgRead; rw [if_neg h1, if_pos h]
theorem msgRead_3 {b : List Int} (h1 : ¬ (b.length < 12 ∨ 300 < b.length)) (h2 : b.getD 0 0 = 1) (h : ¬ lenOf b = (b.length : Int)) : msgRead b = (zeroM, 3) := by unfold msgRead; rw [if_neg h1, if_neg (by simpa using h2), if_pos h]
theorem msgRead_4 {b : List Int} (h1 : ¬ (b.length < 12 ∨ 300 < b.length)) (h2 : b.getD 0 0 = 1) (h3 : lenOf b = (b.length : Int)) (h : kindOf b < 1 ∨ 6 < kindOf b) : msgRead b = (zeroM, 4) := by
  unfold msgRead; rw [if_neg h1, if_neg (by simpa using h2), if_neg (by simpa using h3), if_pos h]
theorem takeI_max {xs : List Int} {n : Int} (h : n ≤ 6) : (takeI xs n).1 ≤ 9223372036854775807 := by have := (takeI_in (xs := xs) h).2; omega
theorem msgI_v (b : List Int) : ∀ x ∈ (msgI b).mat.v, x ≤ 9223372036854775807 := fun x hx => by
  by_cases h2 : kindOf b = 2
  · rw [msgI_add h2] at hx
    obtain ⟨p, hp, rfl⟩ := List.mem_map.1 hx
    exact iterG_all (f := pairI) (fun p => p.1 ≤ 9223372036854775807) (fun s => takeI_max (by omega)) p hp
  · by_cases h3 : kindOf b = 3
    · rw [msgI_flip h3] at hx; cases hx
    · by_cases h5 : kindOf b = 5
      · rw [msgI_note h5] at hx; cases hx
      · rw [msgI_none h2 h3 h5] at hx; cases hx
theorem msgS_v (b : List Int) : ∀ x ∈ (msgS b).mat.v, x ≤ 9223372036854775807 := fun x hx => by
  by_cases h2 : kindOf b = 2
  · rw [msgS_add h2] at hx
    obtain ⟨p, hp, rfl⟩ := List.mem_map.1 hx
    have := (getS_in (b := b) (z := 18 + 12 * (p : Int)) (n := 6) (by omega)).2; omega
  · by_cases h3 : kindOf b = 3
    · rw [msgS_flip h3] at hx; cases hx
    · by_cases h5 : kindOf b = 5
      · rw [msgS_note h5] at hx; cases hx
      · rw [msgS_none h2 h3 h5] at hx; cases hx
theorem msgBytes_pass {m : Msgt} {b : List Int} (h : msgBytes m = (b, true)) : ¬ (b.length < 12 ∨ 300 < b.length) ∧ b.getD 0 0 = 1 ∧ lenOf b = (b.length : Int) ∧ ¬ (kindOf b < 1 ∨ 6 < kindOf b) := by
  obtain ⟨hB, rfl⟩ := msgBytes_yes h
  have H := whole_head hB
  have hb := bodyB_len hB
  have hi := (msgB_in hB).1
  have := H.len
  have hk := H.kind
  exact ⟨by omega, H.ver, H.long, by omega⟩
theorem msgRead_yes {m : Msgt} {b : List Int} (h : msgBytes m = (b, true)) (hv : ∀ x ∈ m.mat.v, x ≤ 9223372036854775807) : msgRead b = (m, 0) := by
  obtain ⟨p1, p2, p3, p4⟩ := msgBytes_pass h
  have e := msgI_read h hv
  unfold msgRead
  rw [if_neg p1, if_neg (by simpa using p2), if_neg (by simpa using p3), if_neg p4, e, if_pos h]
theorem msgRead_no {b : List Int} (p1 : ¬ (b.length < 12 ∨ 300 < b.length)) (p2 : b.getD 0 0 = 1) (p3 : lenOf b = (b.length : Int)) (p4 : ¬ (kindOf b < 1 ∨ 6 < kindOf b)) (h : ¬ msgBytes (msgI b) = (b, true)) : msgRead b = (zeroM, 5) := by
  unfold msgRead
  rw [if_neg p1, if_neg (by simpa using p2), if_neg (by simpa using p3), if_neg p4, if_neg h]
theorem msgS_no {b : List Int} (h : ¬ msgBytes (msgS b) = (b, true)) : ¬ msgBytes (msgI b) = (b, true) := fun e => h (by rw [msgS_read e (msgI_v b)]; exact e)
end Go.Proofs.Ytfdpigafekohgaa

/- Loads from the elements of an own array, in the abstract walk. -/
namespace Go.Proofs.Ytfdpigafekohgaa
open Go.RowKit
set_option linter.unusedVariables false
section
variable {P : Program} {N d : Nat} {s : St} {ty : TypeId} {pos : String} {after : Array Edge} {gd : Option (Nat × Bool)}
theorem op_cells {α : Type} {e : Enc α} {f : α → List Cell} [hc : CellsOf e f] {g : Gh} {l : Locs} {w : World} (m : MemR g l w) {k i : Nat} {T : TypeId} {xs : List α} {dp : Bool} (hk : lkl l k = some (.arr T e xs dp)) (hi : i < xs.length) :
    ∃ cs : List Value, All2 (CellR g l w) cs (f xs[i]) ∧ ∀ j u, cs[j]? = some u → w.cell? ⟨g.ρ k, i * e.size + j, none⟩ = some u := by
  rcases m.arr k α T e xs dp hk with ⟨h1, _, _⟩ | ⟨cap, vs, bss, h1, h2, h3, h4, h5, h6, h7, h8, h9⟩
  · subst h1; simp at hi
  · have hi' : i < bss.length := by rw [h6.1]; exact hi
    obtain ⟨cs, q1, q2⟩ := h6.2 i xs[i] bss[i] (List.getElem?_eq_getElem hi) (List.getElem?_eq_getElem hi')
    exact ⟨cs, (hc.iff.1 q1).all2 (fun b hb => h7 b (List.mem_flatten.2 ⟨_, List.getElem_mem hi', hb⟩)), fun j u hu => by have := q2 j u hu; rwa [Nat.zero_add] at this⟩
theorem x_oload1 {α : Type} {e : Enc α} {f : α → List Cell} [hc : CellsOf e f] {T E k i off : Nat} {x : Operand} {xs : List α} {dp : Bool} {y : Cell} (hN : Nat.blt d N = true) (h : evo s.t x = some (.one (.optr k i off))) (hl : lkl s.l k = some (.arr E e xs dp)) (hT : kindT P T = some none) (hi : i < xs.length) (hy : nthC (f xs[i]) off = some y) :
    Stp P N ⟨some d, .load T x, ty, pos, after, gd⟩ s ⟨(d, .one y) :: s.t, s.l⟩ ⟨rdo x (.one (.optr k i off)), [(k, .arr E e xs dp)], [(d, .one y)], [], []⟩ :=
  Stp.pure rfl hN (rdo_of h) (by simpa using hl) fun g s' a w ht hl' r => by
    have hk : lkl s'.l k = some (.arr E e xs dp) := hl' (k, .arr E e xs dp) (by simp)
    have hv : a.eval x = .pointer (some ⟨g.ρ k, i * e.size + off, none⟩) := eval_ok r (evs_of h) ht _ _ _ _ _ hk
    obtain ⟨cs, h2, h3⟩ := op_cells r.mem hk hi
    obtain ⟨v, h4, h5⟩ := h2.get (nthC_get hy)
    exact ⟨v, by simp only [execOp, Instr.loadAt, hv, Instr.sureAddr, Sem.run_bind, Sem.run_pure, Result.andThen_ok, run_load_one hT (h3 off v h4)], h5⟩
end
end Go.Proofs.Ytfdpigafekohgaa

/- Relations (printed by walk.py) -/
namespace Go.Proofs.Ytfdpigafekohgaa
open Go.RowKit
set_option linter.unusedVariables false
set_option linter.unusedSimpArgs false
set_option maxRecDepth 100000


set_option maxHeartbeats 4000000 in
theorem upToI_c (n m : Int) : AC Try.prog 68 [.one (.c (.int .i64 n)), .one (.c (.int .i64 m))] [] (.one (.c (.bool (upToB n m)))) [] := by
  refine AC_body1 Try.func68 rfl rfl Try.ntmps68 rfl Try.results68 ?_
  refine AW_seq ?_
  refine AW_region ?_
  refine AL_p (x_assign rfl rfl) ?_
  refine AL_nil ?_
  refine AW_seq ?_
  refine AW_region ?_
  refine AL_p (x_move rfl rfl) ?_
  refine AL_b (x_geq rfl rfl rfl) (fun b6 h6 => ?_)
  refine AL_p (x_move rfl rfl) ?_
  cases b6
  · try simp only [tdy] at h6
    refine AL_o rfl rfl rfl rfl ?_
    refine AL_o rfl rfl rfl rfl ?_
    refine AL_o rfl rfl rfl rfl ?_
    refine AL_p (x_pickF rfl rfl rfl) ?_
    refine AL_p (x_assign rfl rfl) ?_
    refine AL_nil ?_
    refine AW_ret ?_
    exact ⟨rn [], ⟨⟨⟨_, rfl, vle_bool (by first | exact (decide_eq_true (by omega)).symm | exact (decide_eq_false (by omega)).symm)⟩, trivial⟩, trivial, trivial, rfl⟩⟩
  try simp only [tdy] at h6
  refine AL_g rfl rfl (x_move rfl rfl) ?_
  refine AL_g rfl rfl (x_move rfl rfl) ?_
  refine AL_gb rfl rfl (x_leq rfl rfl rfl) (fun b10 h10 => ?_)
  refine AL_p (x_pickT rfl rfl rfl) ?_
  refine AL_p (x_assign rfl rfl) ?_
  refine AL_nil ?_
  refine AW_ret ?_
  cases b10
  rotate_left
  · try simp only [tdy] at h10
    exact ⟨rn [], ⟨⟨⟨_, rfl, vle_bool (by first | exact (decide_eq_true (by omega)).symm | exact (decide_eq_false (by omega)).symm)⟩, trivial⟩, trivial, trivial, rfl⟩⟩
  try simp only [tdy] at h10
  exact ⟨rn [], ⟨⟨⟨_, rfl, vle_bool (by first | exact (decide_eq_true (by omega)).symm | exact (decide_eq_false (by omega)).symm)⟩, trivial⟩, trivial, trivial, rfl⟩⟩


end Go.Proofs.Ytfdpigafekohgaa

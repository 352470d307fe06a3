/- The abstract walk through regions (in whatever order) and through code. -/
import Derived.Test.YtcgickpnckedcaaAbs
import Derived.Orders
namespace Go.Proofs.Ytcgickpnckedcaa
open Go.RowKit
set_option linter.unusedVariables false

theorem Oper.wp_weak {P : Program} {o : Oper} {a : Act} {w : World} {K K' : Act → World → Prop} {Q : Exit → Act → World → Prop} (h : ∀ a w, K a w → K' a w) (hh : o.wp P a w K (fun _ _ _ => False)) : o.wp P a w K' Q := by
  unfold Oper.wp at *
  generalize (execOp a.eval o).run P w = r at *
  cases r with
  | ok n w' =>
    cases n <;> simp only [Oper.upon] at hh ⊢ <;>
      first
        | exact h _ _ hh
        | exact Calls.mono hh (fun e w'' he => by cases e <;> first | exact h _ _ he | exact he.elim | (obtain ⟨_, _, h0⟩ := he; exact h0.elim))
        | exact Rows.mono hh (fun _ _ he => h _ _ he)
  | halt x w' => cases x <;> simp only [Oper.upon] at hh ⊢

/-- The same for an operation that has a guard. -/
def OpG (P : Program) (N : Nat) (ops : Array Oper) (o : Oper) (c : Cert) : Prop :=
  ∀ (K : List Nat) (g : Gh) (s : St) (a : Act) (w : World), c.pre s → Rep N g s a w →
    if Region.wanted o (yielded ops a.tmps) then o.wp P a w (fun a' w' => ∃ g', Rep N g' (c.upd s) a' w' ∧ Step K g s.l w g' (c.upd s).l w') (fun _ _ _ => False)
    else ∃ g', Rep N g' (c.upd s) (a.put o.dst undef) w ∧ Step K g s.l w g' (c.upd s).l w
theorem OpG.plain {P : Program} {N : Nat} {ops : Array Oper} {o : Oper} {c : Cert} (hg : o.guard = none) (h : OpOK P N o c) : OpG P N ops o c := fun K g s a w hp r => by
  rw [if_pos (by simp [Region.wanted, hg])]
  exact h K g s a w hp r
def gslot (ops : Array Oper) (j : Nat) : Option Nat := match ops[j]? with | some o => o.dst | none => none
theorem yielded_of {N : Nat} {g : Gh} {s : St} {a : Act} {w : World} {ops : Array Oper} {j t : Nat} {b : Bool} (r : Rep N g s a w) (hj : gslot ops j = some t) (h : lk s.t t = some (.one (.c (.bool b)))) : yielded ops a.tmps j = some b := by
  obtain ⟨hv, _⟩ : a.tmps.getD t undef = .bool b ∧ wfV (.bool b) := r.tmp t _ h
  have h1 : (ops[j]?).bind (·.dst) = some t := by
    unfold gslot at hj
    split at hj
    · rename_i o ho; rw [ho]; exact hj
    · cases hj
  unfold yielded
  rw [h1]
  by_cases hlt : t < a.tmps.size
  · have : a.tmps[t]? = some (.bool b) := by
      rw [Array.getElem?_eq_getElem hlt]
      simp [hlt] at hv
      rw [hv]
    simp [this]
  · simp [hlt, undef] at hv
theorem OpG.on {P : Program} {N : Nat} {ops : Array Oper} {o : Oper} {c : Cert} {j t : Nat} {b : Bool} (hg : o.guard = some (j, b)) (hj : gslot ops j = some t) (h : OpOK P N o c) : OpG P N ops o { c with rt := (t, .one (.c (.bool b))) :: c.rt } := fun K g s a w hp r => by
  have hy := yielded_of r hj (hp.1 _ (List.mem_cons_self ..))
  rw [if_pos (by simp [Region.wanted, hg, hy])]
  exact h K g s a w ⟨fun p hm => hp.1 p (List.mem_cons_of_mem _ hm), hp.2⟩ r
theorem OpG.off {P : Program} {N : Nat} {ops : Array Oper} {o : Oper} {j t d : Nat} {b b' : Bool} (hg : o.guard = some (j, b)) (hj : gslot ops j = some t) (hb : b' ≠ b) (hd : o.dst = some d) (hN : d < N) : OpG P N ops o ⟨[(t, .one (.c (.bool b')))], [], [(d, .tup [])], [], []⟩ := fun K g s a w hp r => by
  have hy := yielded_of r hj (hp.1 _ (List.mem_cons_self ..))
  rw [if_neg (by simp [Region.wanted, hg, hy, hb]), hd]
  exact ⟨g, r.put hN ⟨[], rfl, trivial⟩, Step.refl K g s.l w⟩
theorem OpG.off0 {P : Program} {N : Nat} {ops : Array Oper} {o : Oper} {j t : Nat} {b b' : Bool} (hg : o.guard = some (j, b)) (hj : gslot ops j = some t) (hb : b' ≠ b) (hd : o.dst = none) : OpG P N ops o ⟨[(t, .one (.c (.bool b')))], [], [], [], []⟩ := fun K g s a w hp r => by
  have hy := yielded_of r hj (hp.1 _ (List.mem_cons_self ..))
  rw [if_neg (by simp [Region.wanted, hg, hy, hb]), hd]
  exact ⟨g, r, Step.refl K g s.l w⟩

theorem unyielded_of {N : Nat} {g : Gh} {s : St} {a : Act} {w : World} {ops : Array Oper} {j t : Nat} (r : Rep N g s a w) (hj : gslot ops j = some t) (h : lk s.t t = some (.tup [])) : yielded ops a.tmps j = none := by
  obtain ⟨vs, hv, h2⟩ : ∃ vs : List Value, a.tmps.getD t undef = .tuple vs.toArray ∧ All2 (VR1 g s.l w) vs [] := r.tmp t _ h
  have h1 : (ops[j]?).bind (·.dst) = some t := by
    unfold gslot at hj
    split at hj
    · rename_i o ho; rw [ho]; exact hj
    · cases hj
  unfold yielded
  rw [h1]
  by_cases hlt : t < a.tmps.size
  · have : a.tmps[t]? = some (.tuple vs.toArray) := by
      rw [Array.getElem?_eq_getElem hlt]
      simp [hlt] at hv
      rw [hv]
    simp [this]
  · simp [hlt]
theorem OpG.un {P : Program} {N : Nat} {ops : Array Oper} {o : Oper} {j t d : Nat} {b : Bool} (hg : o.guard = some (j, b)) (hj : gslot ops j = some t) (hd : o.dst = some d) (hN : d < N) : OpG P N ops o ⟨[(t, .tup [])], [], [(d, .tup [])], [], []⟩ := fun K g s a w hp r => by
  have hy := unyielded_of r hj (hp.1 _ (List.mem_cons_self ..))
  rw [if_neg (by simp [Region.wanted, hg, hy]), hd]
  exact ⟨g, r.put hN ⟨[], rfl, trivial⟩, Step.refl K g s.l w⟩
theorem OpG.un0 {P : Program} {N : Nat} {ops : Array Oper} {o : Oper} {j t : Nat} {b : Bool} (hg : o.guard = some (j, b)) (hj : gslot ops j = some t) (hd : o.dst = none) : OpG P N ops o ⟨[(t, .tup [])], [], [], [], []⟩ := fun K g s a w hp r => by
  have hy := unyielded_of r hj (hp.1 _ (List.mem_cons_self ..))
  rw [if_neg (by simp [Region.wanted, hg, hy]), hd]
  exact ⟨g, r, Step.refl K g s.l w⟩

/-! ### Whether the order matters: a closed look at slots and numbers -/
def keys {β : Type 1} (l : List (Nat × β)) : List Nat := l.map (·.1)
def hits (a b : List Nat) : Bool := a.any fun x => b.any fun y => Nat.beq x y
def Cert.wids (c : Cert) : List Nat := (c.wt.flatMap fun p => p.2.ids) ++ c.wl.ids
def Cert.rlk (c : Cert) : List Nat := keys c.rl ++ c.new
def clash (c d : Cert) : Bool :=
  hits (keys c.wt) (keys d.rt) || hits (keys c.wt) (keys d.wt) || hits (keys c.rt) (keys d.wt) ||
  hits (keys c.wl) d.rlk || hits (keys c.wl) (keys d.wl) || hits c.rlk (keys d.wl) || hits c.new d.wids
def edgeMask (acc : List Nat) : List Edge → Nat
  | [] => 0
  | e :: r => if Region.binds .any e then (2 ^ e.on ||| acc.getD e.on 0) ||| edgeMask acc r else edgeMask acc r
def ancL : List Oper → List Nat → List Nat
  | [], acc => acc
  | o :: r, acc => ancL r (acc ++ [edgeMask acc o.after.toList])
def backOK : List Oper → Nat → Bool
  | [], _ => true
  | o :: r, k => (o.after.toList.all fun e => !Region.binds .any e || Nat.blt e.on k) && backOK r (k + 1)
def clashOne (m : Nat) (d : Cert) : List Cert → Nat → Bool
  | [], _ => true
  | c :: r, i => (!clash c d || m.testBit i) && clashOne m d r (i + 1)
def clashAll (masks : List Nat) (before : List Cert) : List Cert → Nat → Bool
  | [], _ => true
  | d :: r, j => clashOne (masks.getD j 0) d before 0 && clashAll masks (before ++ [d]) r (j + 1)
def chk (ops : Array Oper) (cs : List Cert) : Bool := backOK ops.toList 0 && clashAll (ancL ops.toList []) [] cs 0

theorem hits_of {a b : List Nat} {x : Nat} (h : x ∈ a) (h' : x ∈ b) : hits a b = true :=
  List.any_eq_true.2 ⟨x, h, List.any_eq_true.2 ⟨x, h', by simp⟩⟩
theorem key_of_lk {β : Type 1} {k : Nat} : ∀ {l : List (Nat × β)}, (lk l k).isSome = true → k ∈ keys l
  | [], h => by simp [lk] at h
  | (j, x) :: r, h => by
    by_cases e : j = k
    · subst e; exact List.mem_cons_self ..
    · rw [lk_cons_ne e] at h; exact List.mem_cons_of_mem _ (key_of_lk h)
theorem clashOne_spec {m : Nat} {d : Cert} : ∀ {l : List Cert} {k i : Nat} {c : Cert}, clashOne m d l k = true → l[i]? = some c → clash c d = true → m.testBit (k + i) = true
  | [], k, i, c, _, h, _ => by simp at h
  | x :: r, k, 0, c, h, hi, hc => by
    simp only [List.getElem?_cons_zero, Option.some.injEq] at hi
    subst hi
    simp [clashOne, hc] at h
    exact h.1
  | x :: r, k, i + 1, c, h, hi, hc => by
    simp only [clashOne, Bool.and_eq_true] at h
    have := clashOne_spec h.2 (by simpa using hi) hc
    rw [show k + (i + 1) = k + 1 + i by omega]; exact this
theorem clashAll_spec {masks : List Nat} : ∀ {l before : List Cert} {j i k : Nat} {c d : Cert}, clashAll masks before l k = true → before.length = k → i < k + j → (before ++ l)[i]? = some c → l[j]? = some d → clash c d = true → (masks.getD (k + j) 0).testBit i = true
  | [], before, j, i, k, c, d, _, _, _, _, h, _ => by simp at h
  | x :: r, before, 0, i, k, c, d, h, hb, hlt, hc, hd, hcl => by
    simp only [List.getElem?_cons_zero, Option.some.injEq] at hd
    subst hd
    simp only [clashAll, Bool.and_eq_true] at h
    rw [List.getElem?_append_left (by omega)] at hc
    simpa using clashOne_spec h.1 hc hcl
  | x :: r, before, j + 1, i, k, c, d, h, hb, hlt, hc, hd, hcl => by
    simp only [clashAll, Bool.and_eq_true] at h
    have := clashAll_spec (before := before ++ [x]) (k := k + 1) (j := j) (i := i) (c := c) h.2 (by simp [hb]) (by omega) (by rw [List.append_assoc]; exact hc) (by simpa using hd) hcl
    rw [show k + (j + 1) = k + 1 + j by omega]; exact this
theorem edgeMask_spec {acc : List Nat} {i : Nat} : ∀ {es : List Edge}, (edgeMask acc es).testBit i = true → ∃ e ∈ es, Region.binds .any e = true ∧ (e.on = i ∨ (acc.getD e.on 0).testBit i = true)
  | [], h => by simp [edgeMask] at h
  | e :: r, h => by
    unfold edgeMask at h
    split at h
    · rename_i hb
      simp only [Nat.testBit_or, Bool.or_eq_true] at h
      rcases h with (h | h) | h
      · rw [Nat.testBit_two_pow] at h
        exact ⟨e, List.mem_cons_self .., hb, .inl (by simpa using h)⟩
      · exact ⟨e, List.mem_cons_self .., hb, .inr h⟩
      · obtain ⟨e', h1, h2⟩ := edgeMask_spec h
        exact ⟨e', List.mem_cons_of_mem _ h1, h2⟩
    · obtain ⟨e', h1, h2⟩ := edgeMask_spec h
      exact ⟨e', List.mem_cons_of_mem _ h1, h2⟩
/-- What a closed set of operations holds, it holds with all that they wait for. -/
theorem ancL_spec {S : Nat → Bool} : ∀ {l : List Oper} {acc : List Nat} {k : Nat}, acc.length = k → (∀ j o, l[j]? = some o → S (k + j) = true → ∀ e ∈ o.after, Region.binds .any e = true → S e.on = true) →
    (∀ j i, S j = true → (acc.getD j 0).testBit i = true → S i = true) → ∀ j i, S j = true → ((ancL l acc).getD j 0).testBit i = true → S i = true
  | [], acc, k, _, _, h => h
  | o :: r, acc, k, hk, hc, h => by
    refine ancL_spec (l := r) (acc := acc ++ [edgeMask acc o.after.toList]) (k := k + 1) (by simp [hk]) (fun j o' hj hS => hc (j + 1) o' (by simpa using hj) (by rw [show k + (j + 1) = k + 1 + j by omega]; exact hS)) (fun j i hS hb => ?_)
    by_cases hj : j < k
    · exact h j i hS (by simpa [List.getD, List.getElem?_append_left (by omega : j < acc.length)] using hb)
    · by_cases hj' : j = k
      · subst hj'
        have hb' : (edgeMask acc o.after.toList).testBit i = true := by simpa [List.getD, ← hk] using hb
        obtain ⟨e, h1, h2, h3⟩ := edgeMask_spec hb'
        have hSe := hc 0 o rfl (by simpa using hS) e (by simpa using h1) h2
        rcases h3 with h3 | h3
        · exact h3 ▸ hSe
        · exact h e.on i hSe h3
      · rw [List.getD, List.getElem?_eq_none (by simp; omega)] at hb
        simp at hb

/-! ### The state in which the operations of a set have been carried out -/
def apL {β : Type 1} : List (List (Nat × β)) → Nat → (Nat → Bool) → List (Nat × β) → List (Nat × β)
  | [], _, _, b => b
  | x :: r, k, S, b => apL r (k + 1) S (if S k then x ++ b else b)
theorem apL_congr {β : Type 1} {κ : Nat} {S S' : Nat → Bool} : ∀ {xs : List (List (Nat × β))} {k : Nat} {b b' : List (Nat × β)}, (∀ i x, xs[i]? = some x → (lk x κ).isSome = true → S (k + i) = S' (k + i)) → lk b κ = lk b' κ → lk (apL xs k S b) κ = lk (apL xs k S' b') κ
  | [], k, b, b', _, h => h
  | x :: r, k, b, b', hS, h => by
    refine apL_congr (xs := r) (fun i y hy hk => by have := hS (i + 1) y (by simpa using hy) hk; rw [show k + 1 + i = k + (i + 1) by omega]; exact this) ?_
    cases hx : lk x κ with
    | some v =>
      have := hS 0 x rfl (by simp [hx])
      simp only [Nat.add_zero] at this
      rw [this]
      split
      · rw [lk_append, lk_append, hx]; rfl
      · exact h
    | none =>
      have e1 : lk (if S k then x ++ b else b) κ = lk b κ := by split <;> simp [lk_append, hx]
      have e2 : lk (if S' k then x ++ b' else b') κ = lk b' κ := by split <;> simp [lk_append, hx]
      rw [e1, e2, h]
/-- Behind the operations up to i: what i has laid stands. -/
theorem apL_hit {β : Type 1} {κ : Nat} {v : β} : ∀ {xs : List (List (Nat × β))} {k i : Nat} {b x : List (Nat × β)}, xs[i]? = some x → lk x κ = some v → lk (apL xs k (fun j => Nat.ble j (k + i)) b) κ = some v
  | [], k, i, b, x, h, _ => by simp at h
  | y :: r, k, 0, b, x, h, hv => by
    simp only [List.getElem?_cons_zero, Option.some.injEq] at h
    subst h
    have : lk (apL r (k + 1) (fun j => Nat.ble j (k + 0)) (if Nat.ble k (k + 0) then y ++ b else b)) κ = lk (apL r (k + 1) (fun _ => false) (y ++ b)) κ := by
      have hle : Nat.ble k (k + 0) = true := by simp
      rw [hle]
      refine apL_congr (fun i z _ _ => ?_) rfl
      cases hb : Nat.ble (k + 1 + i) (k + 0)
      · rfl
      · exact absurd (Nat.le_of_ble_eq_true hb) (by omega)
    show lk (apL r (k + 1) (fun j => Nat.ble j (k + 0)) (if Nat.ble k (k + 0) then y ++ b else b)) κ = some v
    rw [this]
    have : ∀ (r : List (List (Nat × β))) (k : Nat) (b : List (Nat × β)), apL r k (fun _ => false) b = b := by
      intro r
      induction r with
      | nil => intro k b; rfl
      | cons z r ih => intro k b; simp [apL, ih]
    rw [this, lk_append, hv]; rfl
  | y :: r, k, i + 1, b, x, h, hv => by
    show lk (apL r (k + 1) (fun j => Nat.ble j (k + (i + 1))) _) κ = some v
    have := apL_hit (xs := r) (k := k + 1) (i := i) (b := if Nat.ble k (k + (i + 1)) then y ++ b else b) (by simpa using h) hv
    rw [show k + (i + 1) = k + 1 + i by omega] at *
    exact this

def apS (cs : List Cert) (S : Nat → Bool) (s : St) : St := ⟨apL (cs.map (·.wt)) 0 S s.t, apL (cs.map (·.wl)) 0 S s.l⟩
structure St.eqv (s s' : St) : Prop where
  t : ∀ k, lk s.t k = lk s'.t k
  l : ∀ k, lk s.l k = lk s'.l k
theorem St.eqv.lkl {s s' : St} (h : s.eqv s') (k : Nat) : lkl s.l k = lkl s'.l k := by unfold Go.Proofs.Ytcgickpnckedcaa.lkl; rw [h.l]
theorem okK.eqv {s s' : St} (h : s.eqv s') (g : Gh) (k : Nat) : okK g s.l g s'.l k := okK.same (h.lkl k).symm rfl rfl
theorem MemR.eqv {s s' : St} (h : s.eqv s') {g : Gh} {w : World} (m : MemR g s.l w) : MemR g s'.l w where
  ilt := m.ilt
  box := fun k cs hk => by
    obtain ⟨vs, t, h1, h2, h3⟩ := m.box k cs (by rw [h.lkl]; exact hk)
    exact ⟨vs, t, h1, h2.mono fun a b _ hr => hr.step (fun _ _ => rfl) (fun _ h => h) (Nat.le_refl _) fun k _ => okK.eqv h g k, h3⟩
  arr := fun k α T e xs d hk => m.arr k α T e xs d (by rw [h.lkl]; exact hk)
  dis := fun j k b b' hjk hj hk => m.dis j k b b' hjk (by rw [h.lkl]; exact hj) (by rw [h.lkl]; exact hk)
  fr := fun k α T e xs hk => m.fr k α T e xs (by rw [h.lkl]; exact hk)
  fd := fun j k α β T U e f xs ys hjk hj hk => m.fd j k α β T U e f xs ys hjk (by rw [h.lkl]; exact hj) (by rw [h.lkl]; exact hk)
theorem Rep.eqv {s s' : St} (h : s.eqv s') {N : Nat} {g : Gh} {a : Act} {w : World} (r : Rep N g s a w) : Rep N g s' a w :=
  ⟨r.size, r.defers, fun k x hk => (r.tmp k x (by rw [h.t]; exact hk)).step (fun _ _ => rfl) (fun _ h => h) (Nat.le_refl _) fun k _ => okK.eqv h g k, r.mem.eqv h⟩
theorem OwnB.eqv {s s' : St} (h : s.eqv s') {g : Gh} {b : Nat} (ho : OwnB g s.l b) : OwnB g s'.l b := by
  obtain ⟨k, blk, h1, h2⟩ := ho
  exact ⟨k, blk, by rw [← h.lkl]; exact h1, h2⟩
theorem St.eqv.symm {s s' : St} (h : s.eqv s') : s'.eqv s := ⟨fun k => (h.t k).symm, fun k => (h.l k).symm⟩
theorem Step.eqv {s s' : St} (h : s.eqv s') {K : List Nat} {g g' : Gh} {l : Locs} {w w' : World} (hs : Step K g l w g' s.l w') : Step K g l w g' s'.l w' :=
  { hs with
    own := fun b hb => hs.own b (hb.eqv h.symm)
    base := fun k hk hn => by
      obtain ⟨h1, h2, h3⟩ := hs.base k hk hn
      exact ⟨by rw [← h.l]; exact h1, h2.trans (okK.eqv h g' k), fun cs hc => by obtain ⟨cs', h4⟩ := h3 cs hc; exact ⟨cs', by rw [← h.lkl]; exact h4⟩⟩ }

def foldS : List Cert → Nat → St → St
  | [], _, s => s
  | _ :: _, 0, s => s
  | c :: r, i + 1, s => foldS r i (c.upd s)
theorem apL_none {β : Type 1} : ∀ (r : List (List (Nat × β))) (k : Nat) (S : Nat → Bool) (b : List (Nat × β)), (∀ i, i < r.length → S (k + i) = false) → apL r k S b = b
  | [], k, S, b, _ => rfl
  | z :: r, k, S, b, h => by
    have h0 : S k = false := by simpa using h 0 (by simp)
    unfold apL
    rw [h0]
    exact apL_none r (k + 1) S b fun i hi => by rw [show k + 1 + i = k + (i + 1) by omega]; exact h (i + 1) (by simp; omega)
theorem blt_false {a b : Nat} (h : b ≤ a) : Nat.blt a b = false := by
  cases hb : Nat.blt a b
  · rfl
  · exact absurd (show a + 1 ≤ b by simpa [Nat.blt] using hb) (by omega)
theorem blt_true {a b : Nat} (h : a < b) : Nat.blt a b = true := by simp [Nat.blt]; omega
theorem foldS_t : ∀ (cs : List Cert) (k i : Nat) (s : St), (foldS cs i s).t = apL (cs.map (·.wt)) k (fun j => Nat.blt j (k + i)) s.t
  | [], k, i, s => by cases i <;> rfl
  | c :: r, k, 0, s => (apL_none _ k (fun j => Nat.blt j (k + 0)) _ fun i _ => blt_false (by omega)).symm
  | c :: r, k, i + 1, s => by
    show (foldS r i (c.upd s)).t = apL (r.map (·.wt)) (k + 1) (fun j => Nat.blt j (k + (i + 1))) (if Nat.blt k (k + (i + 1)) = true then c.wt ++ s.t else s.t)
    rw [if_pos (blt_true (by omega)), foldS_t r (k + 1) i (c.upd s), show k + 1 + i = k + (i + 1) by omega]
    rfl
theorem foldS_l : ∀ (cs : List Cert) (k i : Nat) (s : St), (foldS cs i s).l = apL (cs.map (·.wl)) k (fun j => Nat.blt j (k + i)) s.l
  | [], k, i, s => by cases i <;> rfl
  | c :: r, k, 0, s => (apL_none _ k (fun j => Nat.blt j (k + 0)) _ fun i _ => blt_false (by omega)).symm
  | c :: r, k, i + 1, s => by
    show (foldS r i (c.upd s)).l = apL (r.map (·.wl)) (k + 1) (fun j => Nat.blt j (k + (i + 1))) (if Nat.blt k (k + (i + 1)) = true then c.wl ++ s.l else s.l)
    rw [if_pos (blt_true (by omega)), foldS_l r (k + 1) i (c.upd s), show k + 1 + i = k + (i + 1) by omega]
    rfl
theorem foldS_ap (cs : List Cert) (i : Nat) (s : St) : foldS cs i s = apS cs (fun j => Nat.blt j i) s := by
  have h1 := foldS_t cs 0 i s
  have h2 := foldS_l cs 0 i s
  simp only [Nat.zero_add] at h1 h2
  cases h : foldS cs i s with
  | mk t l => rw [h] at h1 h2; simp only at h1 h2; unfold apS; rw [h1, h2]

/-- The walk through the operations of a region, in the order of the text. -/
def AL (P : Program) (N : Nat) (dr : Bool) (ops : Array Oper) (Kn : St → Prop) : List Oper → St → List Cert → Prop
  | [], s, acc => (dr = true → chk ops acc.reverse = true) ∧ Kn s
  | o :: r, s, acc => ∃ c, OpG P N ops o c ∧ c.pre s ∧ AL P N dr ops Kn r (c.upd s) (c :: acc)

theorem AL.out {P : Program} {N : Nat} {dr : Bool} {ops : Array Oper} {Kn : St → Prop} : ∀ {l : List Oper} {s : St} {acc : List Cert}, AL P N dr ops Kn l s acc →
    ∃ cs : List Cert, cs.length = l.length ∧ (∀ (i : Nat) (o : Oper) (c : Cert), l[i]? = some o → cs[i]? = some c → OpG P N ops o c) ∧ (∀ (i : Nat) (c : Cert), cs[i]? = some c → c.pre (foldS cs i s)) ∧ Kn (foldS cs l.length s) ∧ (dr = true → chk ops (acc.reverse ++ cs) = true)
  | [], s, acc, h => ⟨[], rfl, fun i o c h => by simp at h, fun i c h => by simp at h, h.2, fun hd => by simpa using h.1 hd⟩
  | o :: r, s, acc, h => by
    obtain ⟨c, h1, h2, h3⟩ := h
    obtain ⟨cs, e1, e2, e3, e4, e5⟩ := AL.out h3
    refine ⟨c :: cs, by simp [e1], fun i o' c' ho hc => ?_, fun i c' hc => ?_, e4, fun hd => by simpa using e5 hd⟩
    · cases i with
      | zero => simp at ho hc; subst ho; subst hc; exact h1
      | succ i => exact e2 i o' c' (by simpa using ho) (by simpa using hc)
    · cases i with
      | zero => simp at hc; subst hc; exact h2
      | succ i => exact e3 i c' (by simpa using hc)

section region
variable {P : Program} {N : Nat} {ops : Array Oper} {Kn : St → Prop}

/-- What a walk ends with. -/
def Ends (N : Nat) (K : List Nat) (g : Gh) (l : Locs) (w : World) (R : Exit → St → Prop) : Exit → Act → World → Prop :=
  fun e a' w' => ∃ g' s', Rep N g' s' a' w' ∧ Step K g l w g' s'.l w' ∧ R e s'
def NormR (Kn : St → Prop) (Q : Exit → St → Prop) : Exit → St → Prop
  | .normal, s => Kn s
  | e, s => Q e s

theorem AL.list {K : List Nat} {Q : Exit → St → Prop} {g0 : Gh} {l0 : Locs} {w0 : World} (m0 : MemR g0 l0 w0) : ∀ {l : List Oper} {s : St} {acc : List Cert} {dr : Bool}, AL P N dr ops Kn l s acc → ∀ (g : Gh) (a : Act) (w : World), Rep N g s a w → Step K g0 l0 w0 g s.l w →
    wpList P ops (Ends N K g0 l0 w0 (NormR Kn Q)) l a w
  | [], s, acc, dr, h, g, a, w, r, hs => ⟨g, s, r, hs, h.2⟩
  | o :: l, s, acc, dr, h, g, a, w, r, hs => by
    obtain ⟨c, h1, h2, h3⟩ := h
    have h4 := h1 K g s a w h2 r
    unfold wpList
    split
    · rename_i hw
      rw [if_pos hw] at h4
      exact .inl (Oper.wp_weak (fun a' w' ⟨g', r', hs'⟩ => AL.list m0 h3 g' a' w' r' (hs.trans m0 r.mem hs')) h4)
    · rename_i hw
      rw [if_neg hw] at h4
      obtain ⟨g', r', hs'⟩ := h4
      exact AL.list m0 h3 g' _ w r' (hs.trans m0 r.mem hs')

theorem backOK_spec : ∀ {l : List Oper} {k : Nat}, backOK l k = true → ∀ j o, l[j]? = some o → ∀ e ∈ o.after, Region.binds .any e = true → e.on < k + j
  | [], k, _, j, o, h => by simp at h
  | x :: r, k, h, 0, o, ho => by
    simp only [List.getElem?_cons_zero, Option.some.injEq] at ho
    subst ho
    simp only [backOK, Bool.and_eq_true, List.all_eq_true] at h
    intro e he hb
    have := h.1 e (by simpa using he)
    simp [hb, Nat.blt] at this
    omega
  | x :: r, k, h, j + 1, o, ho => by
    simp only [backOK, Bool.and_eq_true] at h
    have := backOK_spec h.2 j o (by simpa using ho)
    rw [show k + (j + 1) = k + 1 + j by omega]; exact this

theorem ids_apL (k : Nat) (S : Nat → Bool) : ∀ (cs : List Cert) (n : Nat) (t : Tmps), k ∈ (apL (cs.map (·.wt)) n S t).flatMap (fun p => p.2.ids) → k ∈ t.flatMap (fun p => p.2.ids) ∨ ∃ i c, cs[i]? = some c ∧ S (n + i) = true ∧ k ∈ c.wids
  | [], n, t, h => .inl h
  | c :: r, n, t, h => by
    rcases ids_apL k S r (n + 1) _ h with h1 | ⟨i, c', h1, h2, h3⟩
    · split at h1
      · rename_i hS
        simp only [List.flatMap_append, List.mem_append] at h1
        rcases h1 with h1 | h1
        · exact .inr ⟨0, c, rfl, by simpa using hS, List.mem_append_left _ h1⟩
        · exact .inl h1
      · exact .inl h1
    · exact .inr ⟨i + 1, c', by simpa using h1, by rw [show n + (i + 1) = n + 1 + i by omega]; exact h2, h3⟩
theorem ids_apL' (k : Nat) (S : Nat → Bool) : ∀ (cs : List Cert) (n : Nat) (l : Locs), k ∈ Locs.ids (apL (cs.map (·.wl)) n S l) → k ∈ l.ids ∨ ∃ i c, cs[i]? = some c ∧ S (n + i) = true ∧ k ∈ c.wids
  | [], n, t, h => .inl h
  | c :: r, n, t, h => by
    rcases ids_apL' k S r (n + 1) _ h with h1 | ⟨i, c', h1, h2, h3⟩
    · split at h1
      · rename_i hS
        unfold Locs.ids at h1
        simp only [List.flatMap_append, List.mem_append] at h1
        rcases h1 with h1 | h1
        · exact .inr ⟨0, c, rfl, by simpa using hS, List.mem_append_right _ h1⟩
        · exact .inl h1
      · exact .inl h1
    · exact .inr ⟨i + 1, c', by simpa using h1, by rw [show n + (i + 1) = n + 1 + i by omega]; exact h2, h3⟩
/-- .. and the other way: what has been laid is there. -/
theorem ids_apL_of (k : Nat) (S : Nat → Bool) : ∀ (cs : List Cert) (n : Nat) (t : Tmps), (k ∈ t.flatMap (fun p => p.2.ids) ∨ ∃ i c, cs[i]? = some c ∧ S (n + i) = true ∧ k ∈ c.wt.flatMap fun p => p.2.ids) → k ∈ (apL (cs.map (·.wt)) n S t).flatMap (fun p => p.2.ids)
  | [], n, t, h => by
    rcases h with h | ⟨i, c, h, _⟩
    · exact h
    · simp at h
  | c :: r, n, t, h => by
    refine ids_apL_of k S r (n + 1) _ ?_
    rcases h with h | ⟨i, c', h1, h2, h3⟩
    · left; split
      · simp only [List.flatMap_append, List.mem_append]; exact .inr h
      · exact h
    · cases i with
      | zero =>
        simp only [List.getElem?_cons_zero, Option.some.injEq] at h1
        subst h1
        left; rw [if_pos (by simpa using h2)]
        simp only [List.flatMap_append, List.mem_append]; exact .inl h3
      | succ i => exact .inr ⟨i, c', by simpa using h1, by rw [show n + 1 + i = n + (i + 1) by omega]; exact h2, h3⟩
theorem ids_apL'_of (k : Nat) (S : Nat → Bool) : ∀ (cs : List Cert) (n : Nat) (l : Locs), (k ∈ l.ids ∨ ∃ i c, cs[i]? = some c ∧ S (n + i) = true ∧ k ∈ c.wl.ids) → k ∈ Locs.ids (apL (cs.map (·.wl)) n S l)
  | [], n, t, h => by
    rcases h with h | ⟨i, c, h, _⟩
    · exact h
    · simp at h
  | c :: r, n, t, h => by
    refine ids_apL'_of k S r (n + 1) _ ?_
    rcases h with h | ⟨i, c', h1, h2, h3⟩
    · left; split
      · unfold Locs.ids at *; simp only [List.flatMap_append, List.mem_append]; exact .inr h
      · exact h
    · cases i with
      | zero =>
        simp only [List.getElem?_cons_zero, Option.some.injEq] at h1
        subst h1
        left; rw [if_pos (by simpa using h2)]
        unfold Locs.ids at *; simp only [List.flatMap_append, List.mem_append]; exact .inl h3
      | succ i => exact .inr ⟨i, c', by simpa using h1, by rw [show n + 1 + i = n + (i + 1) by omega]; exact h2, h3⟩

def unl (n : Nat) (listed : Array Bool) : List Nat := (List.range n).filter fun i => !listed.getD i true
theorem getD_true_of {listed : Array Bool} {i : Nat} (h : i < listed.size) : listed.getD i true = listed.getD i false := by simp [h]
theorem getD_set_self {listed : Array Bool} {i : Nat} (d : Bool) (h : i < listed.size) : (listed.setIfInBounds i true).getD i d = true := by simp [h]

structure Drawn (P : Program) (N : Nat) (ops : Array Oper) (cs : List Cert) (s0 : St) (Kn : St → Prop) : Prop where
  len : cs.length = ops.size
  ok : ∀ (i : Nat) (o : Oper) (c : Cert), ops[i]? = some o → cs[i]? = some c → OpG P N ops o c
  pre : ∀ (i : Nat) (c : Cert), cs[i]? = some c → c.pre (foldS cs i s0)
  fin : Kn (foldS cs ops.size s0)
  chk : chk ops cs = true
def ClosedS (ops : Array Oper) (S : Nat → Bool) : Prop := ∀ (j : Nat) (o : Oper), ops[j]? = some o → S j = true → ∀ e ∈ o.after, Region.binds .any e = true → S e.on = true
theorem Drawn.back {cs : List Cert} {s0 : St} (h : Drawn P N ops cs s0 Kn) {j : Nat} {o : Oper} (hj : ops[j]? = some o) : ∀ e ∈ o.after, Region.binds .any e = true → e.on < j := by
  have h1 := h.chk
  simp only [Go.Proofs.Ytcgickpnckedcaa.chk, Bool.and_eq_true] at h1
  intro e he hb
  simpa using backOK_spec h1.1 j o (by simpa using hj) e he hb
theorem Drawn.dep {cs : List Cert} {s0 : St} (h : Drawn P N ops cs s0 Kn) {S : Nat → Bool} (hS : ClosedS ops S) {i j : Nat} {c d : Cert} (hij : i < j) (hc : cs[i]? = some c) (hd : cs[j]? = some d) (hcl : clash c d = true) (hj : S j = true) : S i = true := by
  have h1 := h.chk
  simp only [Go.Proofs.Ytcgickpnckedcaa.chk, Bool.and_eq_true] at h1
  have h2 := clashAll_spec (before := []) (k := 0) (i := i) (j := j) (c := c) h1.2 rfl (by omega) (by simpa using hc) hd hcl
  rw [Nat.zero_add] at h2
  exact ancL_spec (S := S) (l := ops.toList) (acc := []) (k := 0) rfl (fun a o ha hSa e he hb => hS a o (by simpa using ha) (by simpa using hSa) e he hb) (fun a b _ hb => by simp at hb) j i hj h2

theorem hits_symm_of_lk {β : Type 1} {k : Nat} {l : List (Nat × β)} {m : List Nat} (h : (lk l k).isSome = true) (h' : k ∈ m) : hits (keys l) m = true := hits_of (key_of_lk h) h'
theorem hits_of_lk {β : Type 1} {k : Nat} {l : List (Nat × β)} {m : List Nat} (h : (lk l k).isSome = true) (h' : k ∈ m) : hits m (keys l) = true := hits_of h' (key_of_lk h)

/-- Operation i comes up where all that it waits for has been carried out. -/
structure Up (ops : Array Oper) (S : Nat → Bool) (i : Nat) : Prop where
  cl : ClosedS ops S
  no : S i = false
  cl' : ClosedS ops (fun j => S j || Nat.beq j i)
theorem Drawn.lo {cs : List Cert} {s0 : St} (h : Drawn P N ops cs s0 Kn) {S : Nat → Bool} {i j : Nat} (u : Up ops S i) {c d : Cert} (hc : cs[i]? = some c) (hd : cs[j]? = some d) (hji : j < i) (hcl : clash d c = true) : S j = true := by
  have := h.dep u.cl' hji hd hc hcl (by simp)
  simp only [Bool.or_eq_true] at this
  rcases this with h1 | h1
  · exact h1
  · exact absurd (Nat.eq_of_beq_eq_true h1) (by omega)
theorem Drawn.hi {cs : List Cert} {s0 : St} (h : Drawn P N ops cs s0 Kn) {S : Nat → Bool} {i j : Nat} (u : Up ops S i) {c d : Cert} (hc : cs[i]? = some c) (hd : cs[j]? = some d) (hij : i < j) (hcl : clash c d = true) : S j = false := by
  cases hS : S j
  · rfl
  · have := h.dep u.cl hij hc hd hcl hS
    rw [u.no] at this; cases this

theorem clash1 {c d : Cert} (h : hits (keys c.wt) (keys d.rt) = true) : clash c d = true := by simp [clash, h]
theorem clash2 {c d : Cert} (h : hits (keys c.wt) (keys d.wt) = true) : clash c d = true := by simp [clash, h]
theorem clash3 {c d : Cert} (h : hits (keys c.rt) (keys d.wt) = true) : clash c d = true := by simp [clash, h]
theorem clash4 {c d : Cert} (h : hits (keys c.wl) d.rlk = true) : clash c d = true := by simp [clash, h]
theorem clash5 {c d : Cert} (h : hits (keys c.wl) (keys d.wl) = true) : clash c d = true := by simp [clash, h]
theorem clash6 {c d : Cert} (h : hits c.rlk (keys d.wl) = true) : clash c d = true := by simp [clash, h]
theorem clash7 {c d : Cert} (h : hits c.new d.wids = true) : clash c d = true := by simp [clash, h]

theorem getElem?_map_some {α β : Type _} {f : α → β} {l : List α} {i : Nat} {y : β} (h : (l.map f)[i]? = some y) : ∃ x, l[i]? = some x ∧ f x = y := by
  rw [List.getElem?_map] at h
  cases hx : l[i]? with
  | none => rw [hx] at h; cases h
  | some x => rw [hx] at h; simp at h; exact ⟨x, rfl, h⟩

/-- What the operation looks at is as it was in the order of the text. -/
theorem Drawn.preS {cs : List Cert} {s0 : St} (h : Drawn P N ops cs s0 Kn) {S : Nat → Bool} {i : Nat} (u : Up ops S i) {c : Cert} (hc : cs[i]? = some c) : c.pre (apS cs S s0) := by
  obtain ⟨p1, p2, p3⟩ := h.pre i c hc
  rw [foldS_ap] at p1 p2 p3
  have ag : ∀ j d, cs[j]? = some d → (j < i → clash d c = true) → (i < j → clash c d = true) → S j = Nat.blt j i := fun j d hd h1 h2 => by
    rcases Nat.lt_trichotomy j i with hlt | rfl | hlt
    · rw [h.lo u hc hd hlt (h1 hlt), blt_true hlt]
    · rw [u.no, blt_false (Nat.le_refl _)]
    · rw [h.hi u hc hd hlt (h2 hlt), blt_false (by omega)]
  have tt : ∀ κ, κ ∈ keys c.rt → lk (apS cs S s0).t κ = lk (apS cs (fun j => Nat.blt j i) s0).t κ := fun κ hκ => by
    refine apL_congr (fun j x hx hk => ?_) rfl
    obtain ⟨d, hd, rfl⟩ := getElem?_map_some hx
    rw [Nat.zero_add]
    exact ag j d hd (fun _ => clash1 (hits_symm_of_lk hk hκ)) (fun _ => clash3 (hits_of_lk hk hκ))
  have ll : ∀ κ, κ ∈ c.rlk → lk (apS cs S s0).l κ = lk (apS cs (fun j => Nat.blt j i) s0).l κ := fun κ hκ => by
    refine apL_congr (fun j x hx hk => ?_) rfl
    obtain ⟨d, hd, rfl⟩ := getElem?_map_some hx
    rw [Nat.zero_add]
    exact ag j d hd (fun _ => clash4 (hits_symm_of_lk hk hκ)) (fun _ => clash6 (hits_of_lk hk hκ))
  refine ⟨fun p hp => ?_, fun p hp => ?_, fun κ hκ => ⟨?_, fun hm => ?_⟩⟩
  · rw [tt _ (List.mem_map_of_mem hp)]; exact p1 p hp
  · unfold Go.Proofs.Ytcgickpnckedcaa.lkl
    rw [ll _ (List.mem_append_left _ (List.mem_map_of_mem hp))]; exact p2 p hp
  · rw [ll _ (List.mem_append_right _ hκ)]; exact (p3 κ hκ).1
  · refine (p3 κ hκ).2 ?_
    have late : ∀ j d, cs[j]? = some d → S (0 + j) = true → κ ∈ d.wids → Nat.blt (0 + j) i = true := fun j d hd hS hw => by
      rw [Nat.zero_add] at *
      rcases Nat.lt_trichotomy j i with hlt | rfl | hlt
      · exact blt_true hlt
      · rw [u.no] at hS; cases hS
      · rw [h.hi u hc hd hlt (clash7 (hits_of hκ hw))] at hS; cases hS
    have put : (∃ j d, cs[j]? = some d ∧ S (0 + j) = true ∧ κ ∈ d.wids) → κ ∈ (apS cs (fun j => Nat.blt j i) s0).ids := fun ⟨j, d, h1, h2, h3⟩ => by
      have hb := late j d h1 h2 h3
      rcases List.mem_append.1 h3 with h4 | h4
      · exact List.mem_append_left _ (ids_apL_of κ _ cs 0 _ (.inr ⟨j, d, h1, hb, h4⟩))
      · exact List.mem_append_right _ (ids_apL'_of κ _ cs 0 _ (.inr ⟨j, d, h1, hb, h4⟩))
    rcases List.mem_append.1 hm with hm | hm
    · rcases ids_apL κ S cs 0 s0.t hm with h1 | h1
      · exact List.mem_append_left _ (ids_apL_of κ _ cs 0 _ (.inl h1))
      · exact put h1
    · rcases ids_apL' κ S cs 0 s0.l hm with h1 | h1
      · exact List.mem_append_right _ (ids_apL'_of κ _ cs 0 _ (.inl h1))
      · exact put h1

theorem apL_next {β : Type 1} {W : Cert → List (Nat × β)} {cs : List Cert} {S S' : Nat → Bool} {i : Nat} {c : Cert} (hc : cs[i]? = some c) (hS' : ∀ j, S' j = (S j || Nat.beq j i)) (hno : S i = false)
    (hlo : ∀ j d, cs[j]? = some d → j < i → hits (keys (W d)) (keys (W c)) = true → S j = true) (hhi : ∀ j d, cs[j]? = some d → i < j → hits (keys (W c)) (keys (W d)) = true → S j = false) (b : List (Nat × β)) (κ : Nat) :
    lk (W c ++ apL (cs.map W) 0 S b) κ = lk (apL (cs.map W) 0 S' b) κ := by
  have bne : ∀ j, j ≠ i → Nat.beq j i = false := fun j hj => by
    cases hb : Nat.beq j i
    · rfl
    · exact absurd (Nat.eq_of_beq_eq_true hb) hj
  rw [lk_append]
  cases hk : lk (W c) κ with
  | some v =>
    have h1 : lk (apL (cs.map W) 0 S' b) κ = lk (apL (cs.map W) 0 (fun j => Nat.ble j (0 + i)) b) κ := by
      refine apL_congr (fun j x hx hkx => ?_) rfl
      obtain ⟨d, hd, rfl⟩ := getElem?_map_some hx
      rw [Nat.zero_add, Nat.zero_add, hS']
      have hcκ : (lk (W c) κ).isSome = true := by rw [hk]; rfl
      rcases Nat.lt_trichotomy j i with hlt | rfl | hlt
      · rw [hlo j d hd hlt (hits_of (key_of_lk hkx) (key_of_lk hcκ))]
        have : Nat.ble j i = true := Nat.ble_eq_true_of_le (by omega)
        rw [this]; rfl
      · have : Nat.ble j j = true := Nat.ble_eq_true_of_le (Nat.le_refl _)
        rw [this]; simp
      · rw [hhi j d hd hlt (hits_of (key_of_lk hcκ) (key_of_lk hkx)), bne j (by omega)]
        cases hb : Nat.ble j i
        · rfl
        · exact absurd (Nat.le_of_ble_eq_true hb) (by omega)
    rw [h1, apL_hit (xs := cs.map W) (x := W c) (by rw [List.getElem?_map, hc]; rfl) hk]
    rfl
  | none =>
    show lk (apL (cs.map W) 0 S b) κ = _
    refine apL_congr (fun j x hx hkx => ?_) rfl
    obtain ⟨d, hd, rfl⟩ := getElem?_map_some hx
    rw [Nat.zero_add, hS']
    have hji : j ≠ i := by
      intro e
      subst e
      rw [hc] at hd; cases hd
      rw [hk] at hkx; cases hkx
    rw [bne j hji]; simp
theorem Drawn.next {cs : List Cert} {s0 : St} (h : Drawn P N ops cs s0 Kn) {S S' : Nat → Bool} {i : Nat} (u : Up ops S i) {c : Cert} (hc : cs[i]? = some c) (hS' : ∀ j, S' j = (S j || Nat.beq j i)) : (c.upd (apS cs S s0)).eqv (apS cs S' s0) :=
  ⟨fun κ => apL_next (W := (·.wt)) hc hS' u.no (fun j d hd hlt hh => h.lo u hc hd hlt (clash2 hh)) (fun j d hd hlt hh => h.hi u hc hd hlt (clash2 hh)) _ κ,
   fun κ => apL_next (W := (·.wl)) hc hS' u.no (fun j d hd hlt hh => h.lo u hc hd hlt (clash5 hh)) (fun j d hd hlt hh => h.hi u hc hd hlt (clash5 hh)) _ κ⟩

theorem unl_lt {n i : Nat} {listed : Array Bool} (hi : i ∈ unl n listed) : (unl n (listed.setIfInBounds i true)).length < (unl n listed).length := by
  have h1 : unl n (listed.setIfInBounds i true) = (unl n listed).filter fun j => !Nat.beq j i := by
    unfold unl
    rw [List.filter_filter]
    refine List.filter_congr fun j hj => ?_
    by_cases e : j = i
    · subst e
      have hl : listed.getD j true = false := by simpa [unl] using (List.mem_filter.1 hi).2
      have hlt : j < listed.size := by
        rcases Nat.lt_or_ge j listed.size with h | h
        · exact h
        · simp [Array.getElem?_eq_none h] at hl
      rw [getD_set_self true hlt]; simp
    · rw [getD_set_ne true (Ne.symm e)]
      have : Nat.beq j i = false := by
        cases hb : Nat.beq j i
        · rfl
        · exact absurd (Nat.eq_of_beq_eq_true hb) e
      rw [this]; simp
  rw [h1]
  have : ∀ l : List Nat, i ∈ l → (l.filter fun j => !Nat.beq j i).length < l.length := by
    intro l
    induction l with
    | nil => intro h; cases h
    | cons a l ih =>
      intro h
      by_cases e : a = i
      · subst e
        simp only [List.filter_cons, Nat.beq_refl, Bool.not_true, Bool.false_eq_true, if_false, List.length_cons]
        exact Nat.lt_succ_of_le (List.length_filter_le _ _)
      · have hm : i ∈ l := by rcases List.mem_cons.1 h with rfl | h; exact absurd rfl e; exact h
        have := ih hm
        rw [List.filter_cons]
        split
        · simp only [List.length_cons]; omega
        · simp only [List.length_cons]; omega
  exact this _ hi

theorem draw_main {cs : List Cert} {s0 : St} (h : Drawn P N ops cs s0 Kn) {K : List Nat} {Q : Exit → St → Prop} {g0 : Gh} {l0 : Locs} {w0 : World} (m0 : MemR g0 l0 w0) :
    ∀ (fuel : Nat) (listed : Array Bool) (g : Gh) (a : Act) (w : World), listed.size = ops.size → ClosedS ops (fun j => listed.getD j false) → (unl ops.size listed).length ≤ fuel →
      Rep N g (apS cs (fun j => listed.getD j false) s0) a w → Step K g0 l0 w0 g (apS cs (fun j => listed.getD j false) s0).l w →
      wpAny P .any ops (Ends N K g0 l0 w0 (NormR Kn Q)) fuel listed a w := by
  have done : ∀ (listed : Array Bool) (g : Gh) (a : Act) (w : World), listed.size = ops.size → (∀ i, i < ops.size → listed.getD i true = true) →
      Rep N g (apS cs (fun j => listed.getD j false) s0) a w → Step K g0 l0 w0 g (apS cs (fun j => listed.getD j false) s0).l w → Ends N K g0 l0 w0 (NormR Kn Q) .normal a w := by
    intro listed g a w hsz hall r hs
    have he : (apS cs (fun j => listed.getD j false) s0).eqv (foldS cs ops.size s0) := by
      rw [foldS_ap]
      have ag : ∀ j, j < cs.length → listed.getD j false = Nat.blt j ops.size := fun j hj => by
        rw [← getD_true_of (by rw [hsz, ← h.len]; exact hj), hall j (by rw [← h.len]; exact hj), blt_true (by rw [← h.len]; exact hj)]
      exact ⟨fun κ => apL_congr (fun j x hx _ => by rw [Nat.zero_add]; exact ag j (by simpa using (List.getElem?_eq_some_iff.1 hx).1)) rfl, fun κ => apL_congr (fun j x hx _ => by rw [Nat.zero_add]; exact ag j (by simpa using (List.getElem?_eq_some_iff.1 hx).1)) rfl⟩
    exact ⟨g, _, r.eqv he, hs.eqv he, h.fin⟩
  have rdy : ∀ (listed : Array Bool), listed.size = ops.size → Region.ready .any ops listed = [] → ∀ i, i < ops.size → listed.getD i true = true := by
    intro listed hsz hr i
    induction i using Nat.strongRecOn with
    | _ i ih =>
      intro hi
      cases hl : listed.getD i true
      · exfalso
        have ho : ops[i]? = some ops[i] := Array.getElem?_eq_getElem hi
        have hm : i ∈ Region.ready .any ops listed := mem_ready.2 ⟨hl, _, ho, fun e he hb => by
          have hlt := h.back ho e he hb
          rw [← getD_true_of (by omega)]
          exact ih e.on hlt (by omega)⟩
        rw [hr] at hm; cases hm
      · rfl
  intro fuel
  induction fuel with
  | zero =>
    intro listed g a w hsz hcl hun r hs
    have hnil : unl ops.size listed = [] := List.eq_nil_of_length_eq_zero (by omega)
    have hall : ∀ i, i < ops.size → listed.getD i true = true := fun i hi => by
      cases hl : listed.getD i true
      · have : i ∈ unl ops.size listed := List.mem_filter.2 ⟨List.mem_range.2 hi, by simp only [hl]; rfl⟩
        rw [hnil] at this; cases this
      · rfl
    refine ⟨?_, done listed g a w hsz hall r hs⟩
    refine List.eq_nil_iff_forall_not_mem.2 fun i hi => ?_
    obtain ⟨h1, o, h2, _⟩ := mem_ready.1 hi
    rw [hall i (Array.getElem?_eq_some_iff.1 h2).1] at h1; cases h1
  | succ fuel ih =>
    intro listed g a w hsz hcl hun r hs
    refine ⟨fun hr => done listed g a w hsz (rdy listed hsz hr) r hs, fun i hi => ?_⟩
    obtain ⟨h1, o, ho, h3⟩ := mem_ready.1 hi
    have hilt : i < ops.size := (Array.getElem?_eq_some_iff.1 ho).1
    have hno : listed.getD i false = false := by rw [← getD_true_of (by omega)]; exact h1
    obtain ⟨c, hc⟩ : ∃ c, cs[i]? = some c := ⟨_, List.getElem?_eq_getElem (by rw [h.len]; exact hilt)⟩
    have hS' : ∀ j, (listed.setIfInBounds i true).getD j false = (listed.getD j false || Nat.beq j i) := fun j => by
      by_cases e : j = i
      · subst e; rw [getD_set_self false (by omega)]; simp
      · rw [getD_set_ne false (Ne.symm e)]
        have : Nat.beq j i = false := by
          cases hb : Nat.beq j i
          · rfl
          · exact absurd (Nat.eq_of_beq_eq_true hb) e
        rw [this]; simp
    have hcl' : ClosedS ops (fun j => listed.getD j false || Nat.beq j i) := fun j o' hj hSj e he hb => by
      simp only [Bool.or_eq_true] at hSj ⊢
      rcases hSj with h4 | h4
      · exact .inl (hcl j o' hj h4 e he hb)
      · have := Nat.eq_of_beq_eq_true h4
        subst this
        rw [ho] at hj; cases hj
        exact .inl (h3 e he hb)
    have u : Up ops (fun j => listed.getD j false) i := ⟨hcl, hno, hcl'⟩
    have hpre := h.preS u hc
    have heq := h.next u hc hS'
    have hop := h.ok i o c ho hc K g _ a w hpre r
    have go : ∀ a' w', (∃ g', Rep N g' (c.upd (apS cs (fun j => listed.getD j false) s0)) a' w' ∧ Step K g (apS cs (fun j => listed.getD j false) s0).l w g' (c.upd (apS cs (fun j => listed.getD j false) s0)).l w') →
        wpAny P .any ops (Ends N K g0 l0 w0 (NormR Kn Q)) fuel (listed.setIfInBounds i true) a' w' := fun a' w' ⟨g', r', hs'⟩ => by
      have := unl_lt (n := ops.size) (i := i) (listed := listed) (List.mem_filter.2 ⟨List.mem_range.2 hilt, by simp only [h1]; rfl⟩)
      refine ih _ g' a' w' (by simp [hsz]) ?_ (by omega) (r'.eqv heq) ((hs.trans m0 r.mem hs').eqv heq)
      intro j o' hj hSj e he hb
      have hSj' : (listed.setIfInBounds i true).getD j false = true := hSj
      show (listed.setIfInBounds i true).getD e.on false = true
      rw [hS'] at hSj' ⊢
      exact hcl' j o' hj hSj' e he hb
    unfold wpOp
    rw [ho]
    simp only
    split
    · rename_i hw
      rw [if_pos hw] at hop
      exact .inl (Oper.wp_weak go hop)
    · rename_i hw
      rw [if_neg hw] at hop
      exact go _ _ hop

theorem Rep.drawn {g : Gh} {s : St} {a : Act} {w : World} (r : Rep N g s a w) : Rep N g s a { w with drawn := w.drawn + 1 } :=
  r.next0 (fun _ _ => rfl) (fun _ h => h) (Nat.le_refl _) (fun _ _ => okK.same rfl rfl rfl)
    (r.mem.set1 0 (fun _ _ => rfl) (fun _ h => h) (Nat.le_refl _) r.mem.ilt (fun j _ => .inr ⟨rfl, rfl, rfl, rfl, fun b hb hl => ⟨rfl, r.mem.notI hb hl⟩⟩) (.inl (okK.same rfl rfl rfl))
      (fun cs h => by
        obtain ⟨vs, t, h1, h2, h3⟩ := r.mem.box 0 cs h
        exact ⟨vs, t, h1, h2.mono fun a b _ hr => CellR.step (w := w) (w' := { w with drawn := w.drawn + 1 }) (g := g) (g' := g) (l := s.l) (l' := s.l) (fun _ _ => rfl) (fun _ h => h) (Nat.le_refl _) (fun _ _ => okK.same rfl rfl rfl) hr, h3⟩)
      (fun α T e xs d h => by
        rcases r.mem.arr 0 α T e xs d h with h1 | ⟨cap, vs, bss, h1, h2, h3, h4, h5, h6, h7⟩
        · exact .inl h1
        · exact .inr ⟨cap, vs, bss, h1, h2, h3, h4, h5, h6.keep rfl (fun _ _ => rfl) (Nat.le_refl _), h7⟩)
      (fun j b b' hj h1 _ h2 l1 l2 => r.mem.dis j 0 b b' hj h1 h2 l1 l2) (fun α T e xs h => r.mem.fr 0 α T e xs h) (fun j α β T U e f xs ys hj h1 _ h2 => r.mem.fd j 0 α β T U e f xs ys hj h1 h2))
theorem Step.drawn (K : List Nat) (g : Gh) (l : Locs) (w : World) : Step K g l w g l { w with drawn := w.drawn + 1 } :=
  ⟨rfl, rfl, rfl, Nat.le_refl _, fun _ _ _ => rfl, fun _ h => h, fun _ h => .inl h, fun _ h => .inl h, fun k _ h => ⟨h, okK.same rfl rfl rfl, fun cs h => ⟨cs, h⟩⟩⟩
end region
end Go.Proofs.Ytcgickpnckedcaa

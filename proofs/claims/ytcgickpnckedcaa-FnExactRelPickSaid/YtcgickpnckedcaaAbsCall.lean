/- The abstract walk through code; functions and calls. -/
import Derived.Test.YtcgickpnckedcaaAbsWalk
import Derived.Deep.LoopGhost
import Derived.OwnWalk
namespace Go.Proofs.Ytcgickpnckedcaa
open Go.RowKit
set_option linter.unusedVariables false

/-- From the state s the code ends as said: Kn where it falls through, Q at its exits. -/
def AW (P : Program) (N : Nat) (K : List Nat) (c : Code) (Kn : St → Prop) (Q : Exit → St → Prop) (s : St) : Prop :=
  ∀ (g : Gh) (a : Act) (w : World), Rep N g s a w → c.wp P (Ends N K g s.l w (NormR Kn Q)) a w

section rules
variable {P : Program} {N : Nat} {K : List Nat} {Kn : St → Prop} {Q : Exit → St → Prop} {s : St}

theorem Ends.trans {g g1 : Gh} {l l1 : Locs} {w w1 : World} {R : Exit → St → Prop} {e : Exit} {a : Act} {w2 : World} (m : MemR g l w) (m1 : MemR g1 l1 w1) (hs : Step K g l w g1 l1 w1) (h : Ends N K g1 l1 w1 R e a w2) : Ends N K g l w R e a w2 := by
  obtain ⟨g', s', r, hs', hR⟩ := h
  exact ⟨g', s', r, hs.trans m m1 hs', hR⟩
theorem AW_region {id : Nat} {l : List Oper} (h : AL P N false l.toArray Kn l s []) : AW P N K (.region id l.toArray false) Kn Q s := fun g a w r =>
  wp_region_lit (AL.list r.mem h g a w r (Step.refl ..))
theorem replF (n : Nat) (j : Nat) : (Array.replicate n false).getD j false = false := by
  by_cases h : j < n <;> simp [h]
theorem AW_draw {id : Nat} {l : List Oper} (hm : P.follows .mixedOrders = true) (h : AL P N true l.toArray Kn l s []) : AW P N K (.region id l.toArray true) Kn Q s := fun g a w r => by
  refine wp_region_any hm ?_
  obtain ⟨cs, h1, h2, h3, h4, h5⟩ := h.out
  have hD : Drawn P N l.toArray cs s Kn := ⟨by simpa using h1, fun i o c ho hc => h2 i o c (by simpa using ho) hc, h3, by simpa using h4, by simpa using h5 rfl⟩
  have e0 : apS cs (fun j => (Array.replicate l.toArray.size false).getD j false) s = s := by
    have hf := replF l.toArray.size
    unfold apS
    rw [apL_none _ _ _ _ fun i _ => hf _, apL_none _ _ _ _ fun i _ => hf _]
  have hle : (unl l.toArray.size (Array.replicate l.toArray.size false)).length ≤ l.toArray.size := by
    have := List.length_filter_le (fun i => !(Array.replicate l.toArray.size false).getD i true) (List.range l.toArray.size)
    simpa [unl] using this
  refine draw_main hD r.mem l.toArray.size _ g a _ (by simp) ?_ hle (by rw [e0]; exact r.drawn) (by rw [e0]; exact Step.drawn K g s.l w)
  intro j o _ hS
  rw [show (fun j => (Array.replicate l.toArray.size false).getD j false) j = (Array.replicate l.toArray.size false).getD j false from rfl, replF] at hS
  cases hS
theorem AW_seq {x y : Code} (h : AW P N K x (AW P N K y Kn Q) Q s) : AW P N K (.seq x y) Kn Q s := fun g a w r =>
  wp_seq (Go.wp_mono (h g a w r) fun e a1 w1 h1 => by
    obtain ⟨g1, s1, r1, hs, hR⟩ := h1
    cases e with
    | normal => exact Go.wp_mono (hR g1 a1 w1 r1) fun e a2 w2 h2 => h2.trans r.mem r1.mem hs
    | exit id => exact ⟨g1, s1, r1, hs, hR⟩
    | goto l => exact ⟨g1, s1, r1, hs, hR⟩
    | ret => exact ⟨g1, s1, r1, hs, hR⟩
    | panic ch => exact ⟨g1, s1, r1, hs, hR⟩
    | outgrown => exact ⟨g1, s1, r1, hs, hR⟩)
theorem AW_skip (h : Kn s) : AW P N K .skip Kn Q s := fun g a w r => Go.wp_skip ⟨g, s, r, Step.refl .., h⟩
theorem AW_cond {c : Operand} {x y : Code} {b : Bool} (hc : evo s.t c = some (.one (.c (.bool b)))) (ht : b = true → AW P N K x Kn Q s) (hf : b = false → AW P N K y Kn Q s) : AW P N K (.cond c x y) Kn Q s := fun g a w r => by
  obtain ⟨hv, _⟩ : a.eval c = .bool b ∧ wfV (.bool b) := eval_ok r (evs_of hc) (rdo_of hc)
  exact wp_cond_split hv (fun h => ht h g a w r) (fun h => hf h g a w r)
theorem AW_condT {c : Operand} {x y : Code} (hc : evo s.t c = some (.one (.c (.bool true)))) (h : AW P N K x Kn Q s) : AW P N K (.cond c x y) Kn Q s := AW_cond hc (fun _ => h) (fun h => by cases h)
theorem AW_condF {c : Operand} {x y : Code} (hc : evo s.t c = some (.one (.c (.bool false)))) (h : AW P N K y Kn Q s) : AW P N K (.cond c x y) Kn Q s := AW_cond hc (fun h => by cases h) (fun _ => h)
def BQ (id : Nat) (Kn : St → Prop) (Q : Exit → St → Prop) : Exit → St → Prop
  | .exit j, s => bif Nat.beq j id then Kn s else Q (.exit j) s
  | e, s => Q e s
theorem AW_block {id : Nat} {c : Code} (h : AW P N K c Kn (BQ id Kn Q) s) : AW P N K (.block id c) Kn Q s := fun g a w r =>
  wp_block (Go.wp_mono (h g a w r) fun e a1 w1 h1 => by
    obtain ⟨g1, s1, r1, hs, hR⟩ := h1
    cases e with
    | exit j =>
      simp only [Exit.inBlock]
      by_cases e : j = id
      · subst e
        rw [if_pos rfl]
        have h2 : (bif Nat.beq j j then Kn s1 else Q (.exit j) s1) := hR
        rw [show Nat.beq j j = true by simp] at h2
        exact ⟨g1, s1, r1, hs, h2⟩
      · rw [if_neg e]
        have h2 : (bif Nat.beq j id then Kn s1 else Q (.exit j) s1) := hR
        have : Nat.beq j id = false := by
          cases hb : Nat.beq j id
          · rfl
          · exact absurd (Nat.eq_of_beq_eq_true hb) e
        rw [this] at h2
        exact ⟨g1, s1, r1, hs, h2⟩
    | normal => exact ⟨g1, s1, r1, hs, hR⟩
    | goto l => exact ⟨g1, s1, r1, hs, hR⟩
    | ret => exact ⟨g1, s1, r1, hs, hR⟩
    | panic ch => exact ⟨g1, s1, r1, hs, hR⟩
    | outgrown => exact ⟨g1, s1, r1, hs, hR⟩)
theorem AW_exit {j : Nat} (h : Q (.exit j) s) : AW P N K (.exit j) Kn Q s := fun g a w r => wp_exit ⟨g, s, r, Step.refl .., h⟩
theorem BQ_hit {id : Nat} (h : Kn s) : BQ id Kn Q (.exit id) s := by
  show (bif Nat.beq id id then Kn s else Q (.exit id) s)
  rw [show Nat.beq id id = true by simp]; exact h
theorem BQ_miss {id j : Nat} (hn : Nat.beq j id = false) (h : Q (.exit j) s) : BQ id Kn Q (.exit j) s := by
  show (bif Nat.beq j id then Kn s else Q (.exit j) s)
  rw [hn]; exact h
theorem BQ_ret {id : Nat} (h : Q .ret s) : BQ id Kn Q .ret s := h
theorem AW_ret (h : Q .ret s) : AW P N K .ret Kn Q s := fun g a w r => wp_ret ⟨g, s, r, Step.refl .., h⟩
theorem AW_mono {c : Code} {Kn' : St → Prop} {Q' : Exit → St → Prop} (hk : ∀ s, Kn s → Kn' s) (hq : ∀ e s, Q e s → Q' e s) (h : AW P N K c Kn Q s) : AW P N K c Kn' Q' s := fun g a w r =>
  Go.wp_mono (h g a w r) fun e a1 w1 ⟨g1, s1, r1, hs, hR⟩ => ⟨g1, s1, r1, hs, by cases e <;> first | exact hk _ hR | exact hq _ _ hR⟩
end rules

/-! ### Names changed, things forgotten -/
def Cell.ren (r : Nat → Nat) : Cell → Cell
  | .own k => .own (r k)
  | .ptr k off => .ptr (r k) off
  | .optr k i off => .optr (r k) i off
  | .clo f ks => .clo f (ks.map r)
  | .c v => .c v
  | .sl e xs => .sl e xs
  | .ep e x off => .ep e x off
  | .any => .any
  | .sn e xs => .sn e xs
  | .slo B e xs => .slo B e xs
  | .epo B e x off => .epo B e x off
def AVal.ren1 (r : Nat → Nat) : AVal → AVal
  | .one x => .one (x.ren r)
  | .agg xs => .agg (xs.map (Cell.ren r))
  | .tup xs => .tup xs
def AVal.ren (r : Nat → Nat) : AVal → AVal
  | .one x => .one (x.ren r)
  | .agg xs => .agg (xs.map (Cell.ren r))
  | .tup xs => .tup (xs.map (AVal.ren1 r))
def Blk.ren (r : Nat → Nat) : Blk → Blk
  | .box cs => .box (cs.map (Cell.ren r))
  | .arr T e xs d => .arr T e xs d
/-- Whoever knows the one knows the other. -/
def CLe (x y : Cell) : Prop := ∀ (g : Gh) (l : Locs) (w : World) (v : Value), CellR g l w v x → CellR g l w v y
def VLe (x y : AVal) : Prop := ∀ (g : Gh) (l : Locs) (w : World) (v : Value), VR g l w v x → VR g l w v y
def V1Le (x y : AVal) : Prop := ∀ (g : Gh) (l : Locs) (w : World) (v : Value), VR1 g l w v x → VR1 g l w v y
def AllC : List Cell → List Cell → Prop
  | [], [] => True
  | x :: xs, y :: ys => CLe x y ∧ AllC xs ys
  | _, _ => False
theorem CLe.rf {x : Cell} : CLe x x := fun _ _ _ _ h => h
theorem CLe.any {x : Cell} : CLe x .any := fun _ _ _ _ _ => trivial
theorem CLe.nil {α : Type} {e : Enc α} : CLe (.c (.slice none 0 0)) (.sl e []) := fun g l w v h => ⟨none, 0, 0, [], h.1, ⟨rfl, Nat.le_refl _, by unfold maxLen; omega, fun _ => rfl, .inl ⟨rfl, rfl⟩⟩, fun _ hb => by cases hb⟩
theorem AllC.rf : ∀ {xs : List Cell}, AllC xs xs
  | [] => trivial
  | _ :: _ => ⟨CLe.rf, AllC.rf⟩
theorem AllC.all2 {g : Gh} {l : Locs} {w : World} : ∀ {vs : List Value} {xs ys : List Cell}, AllC xs ys → All2 (CellR g l w) vs xs → All2 (CellR g l w) vs ys
  | [], [], [], _, _ => trivial
  | v :: vs, x :: xs, y :: ys, h, h' => ⟨h.1 _ _ _ _ h'.1, AllC.all2 h.2 h'.2⟩
theorem VLe.rf {x : AVal} : VLe x x := fun _ _ _ _ h => h
theorem V1Le.rf {x : AVal} : V1Le x x := fun _ _ _ _ h => h
theorem VLe.one {x y : Cell} (h : CLe x y) : VLe (.one x) (.one y) := h
theorem V1Le.one {x y : Cell} (h : CLe x y) : V1Le (.one x) (.one y) := h
theorem V1Le.agg {xs ys : List Cell} (h : AllC xs ys) : V1Le (.agg xs) (.agg ys) := fun _ _ _ _ ⟨vs, h1, h2⟩ => ⟨vs, h1, h.all2 h2⟩
theorem VLe.agg {xs ys : List Cell} (h : AllC xs ys) : VLe (.agg xs) (.agg ys) := fun _ _ _ _ ⟨vs, h1, h2⟩ => ⟨vs, h1, h.all2 h2⟩
def AllV : List AVal → List AVal → Prop
  | [], [] => True
  | x :: xs, y :: ys => V1Le x y ∧ AllV xs ys
  | _, _ => False
theorem AllV.rf : ∀ {xs : List AVal}, AllV xs xs
  | [] => trivial
  | _ :: _ => ⟨V1Le.rf, AllV.rf⟩
theorem AllV.all2 {g : Gh} {l : Locs} {w : World} : ∀ {vs : List Value} {xs ys : List AVal}, AllV xs ys → All2 (VR1 g l w) vs xs → All2 (VR1 g l w) vs ys
  | [], [], [], _, _ => trivial
  | v :: vs, x :: xs, y :: ys, h, h' => ⟨h.1 _ _ _ _ h'.1, AllV.all2 h.2 h'.2⟩
theorem VLe.tup {xs ys : List AVal} (h : AllV xs ys) : VLe (.tup xs) (.tup ys) := fun _ _ _ _ ⟨vs, h1, h2⟩ => ⟨vs, h1, h.all2 h2⟩

def BLe (b b' : Blk) : Prop := b = b' ∨ ∃ cs cs', b = .box cs ∧ b' = .box cs' ∧ AllC cs cs'
theorem BLe.rf {b : Blk} : BLe b b := .inl rfl
theorem BLe.box {cs cs' : List Cell} (h : AllC cs cs') : BLe (.box cs) (.box cs') := .inr ⟨cs, cs', rfl, rfl, h⟩
def LeT (r : Nat → Nat) (t : Tmps) : Tmps → Prop
  | [] => True
  | (k, x) :: rest => (∃ y, lk t k = some y ∧ VLe y (x.ren r)) ∧ LeT r t rest
def LeL (r : Nat → Nat) (l : Locs) : Locs → Prop
  | [] => True
  | (k, some b) :: rest => (∃ b', lkl l (r k) = some b' ∧ BLe b' (b.ren r)) ∧ LeL r l rest
  | (_, none) :: rest => LeL r l rest
def LeK (r : Nat → Nat) (l L : Locs) : List Nat → Prop
  | [] => True
  | k :: ks => (r k = k ∧ (lk L k ≠ none ∨ lk l k = none) ∧ ∀ cs, lkl l k = some (.box cs) → ∃ cs', lkl L k = some (.box cs')) ∧ LeK r l L ks
def injL (r : Nat → Nat) : List Nat → Bool
  | [] => true
  | k :: ks => (ks.all fun j => Nat.beq j k || !Nat.beq (r j) (r k)) && injL r ks
/-- The state s tells all that S tells, under other names. -/
structure LeS (K : List Nat) (r : Nat → Nat) (s S : St) : Prop where
  t : LeT r s.t S.t
  l : LeL r s.l S.l
  k : LeK r s.l S.l K
  inj : injL r (keys S.l) = true
def rn : List (Nat × Nat) → Nat → Nat
  | [], k => k
  | (a, b) :: r, k => bif Nat.beq a k then b else rn r k

theorem LeT.get {r : Nat → Nat} {t : Tmps} : ∀ {T : Tmps} {k : Nat} {x : AVal}, LeT r t T → lk T k = some x → ∃ y, lk t k = some y ∧ VLe y (x.ren r)
  | [], k, x, _, h => by simp [lk] at h
  | (j, z) :: rest, k, x, hT, h => by
    by_cases e : j = k
    · subst e; rw [lk_cons_self] at h; cases h; exact hT.1
    · rw [lk_cons_ne e] at h; exact LeT.get hT.2 h
theorem LeL.get {r : Nat → Nat} {l : Locs} : ∀ {L : Locs} {k : Nat} {b : Blk}, LeL r l L → lkl L k = some b → ∃ b', lkl l (r k) = some b' ∧ BLe b' (b.ren r)
  | [], k, b, _, h => by simp [lkl, lk] at h
  | (j, z) :: rest, k, b, hL, h => by
    by_cases e : j = k
    · subst e; rw [lkl_cons_self] at h; subst h; exact hL.1
    · cases z with
      | none => rw [lkl_cons_ne e] at h; exact LeL.get (L := rest) hL h
      | some z => rw [lkl_cons_ne e] at h; exact LeL.get hL.2 h
theorem LeK.get {r : Nat → Nat} {l L : Locs} : ∀ {K : List Nat} {k : Nat}, LeK r l L K → k ∈ K → r k = k ∧ (lk L k ≠ none ∨ lk l k = none) ∧ ∀ cs, lkl l k = some (.box cs) → ∃ cs', lkl L k = some (.box cs')
  | [], k, _, h => by cases h
  | j :: ks, k, hK, h => by
    rcases List.mem_cons.1 h with rfl | h
    · exact hK.1
    · exact LeK.get hK.2 h
theorem injL.get {r : Nat → Nat} : ∀ {ks : List Nat} {i j : Nat}, injL r ks = true → i ∈ ks → j ∈ ks → i ≠ j → r i ≠ r j
  | [], i, j, _, h, _, _ => by cases h
  | k :: ks, i, j, h, hi, hj, hij => by
    simp only [injL, Bool.and_eq_true, List.all_eq_true] at h
    have one : ∀ x, x ∈ ks → x ≠ k → r x ≠ r k := fun x hx hne he => by
      have := h.1 x hx
      simp only [Bool.or_eq_true, Bool.not_eq_true'] at this
      rcases this with h1 | h1
      · exact hne (Nat.eq_of_beq_eq_true h1)
      · rw [he, Nat.beq_refl] at h1; cases h1
    rcases List.mem_cons.1 hi with rfl | hi
    · rcases List.mem_cons.1 hj with rfl | hj
      · exact absurd rfl hij
      · exact Ne.symm (one j hj (Ne.symm hij))
    · rcases List.mem_cons.1 hj with rfl | hj
      · exact one i (by assumption) hij
      · exact injL.get h.2 hi hj hij
theorem key_of_lkl {l : Locs} {k : Nat} {b : Blk} (h : lkl l k = some b) : k ∈ keys l := List.mem_map_of_mem (lkl_mem h)

def Gh.ren (g : Gh) (r : Nat → Nat) : Gh := ⟨g.I, fun k => g.ρ (r k), fun k => g.hd (r k), fun k => g.F (r k)⟩
theorem ren_arr {b : Blk} {r : Nat → Nat} {α : Type} {T : TypeId} {e : Enc α} {xs : List α} {d : Bool} {b' : Blk} (hb : b = .arr T e xs d) (h : BLe b' (b.ren r)) : b' = .arr T e xs d := by
  subst hb
  rcases h with h | ⟨cs, cs', _, h2, _⟩
  · exact h
  · cases h2
theorem ren_box {b : Blk} {r : Nat → Nat} {cs : List Cell} {b' : Blk} (hb : b = .box cs) (h : BLe b' (b.ren r)) : ∃ cs', b' = .box cs' ∧ AllC cs' (cs.map (Cell.ren r)) := by
  subst hb
  rcases h with h | ⟨cs1, cs2, h1, h2, h3⟩
  · exact ⟨_, h, AllC.rf⟩
  · cases h2; exact ⟨cs1, h1, h3⟩

section le
variable {K : List Nat} {r : Nat → Nat} {l L : Locs} {g : Gh} {w : World}
theorem CellR.unren (hL : LeL r l L) {v : Value} {x : Cell} (h : CellR g l w v (x.ren r)) : CellR (g.ren r) L w v x := by
  cases x with
  | c u => exact h
  | sl e xs => exact h
  | own k =>
    intro α T e xs d hk
    obtain ⟨b', h1, h2⟩ := hL.get hk
    exact h α T e xs d (by rw [h1, ren_arr rfl h2])
  | ptr k off =>
    intro cs hk
    obtain ⟨b', h1, h2⟩ := hL.get hk
    obtain ⟨cs', rfl, _⟩ := ren_box rfl h2
    exact h cs' h1
  | optr k i off =>
    intro α T e xs d hk
    obtain ⟨b', h1, h2⟩ := hL.get hk
    exact h α T e xs d (by rw [h1, ren_arr rfl h2])
  | ep e x off => exact h
  | clo f ks =>
    intro hk
    have := h (fun k hkm => by
      obtain ⟨j, hj, rfl⟩ := List.mem_map.1 hkm
      obtain ⟨cs, h0⟩ := hk j hj
      obtain ⟨b', h1, h2⟩ := hL.get h0
      obtain ⟨cs', rfl, _⟩ := ren_box rfl h2
      exact ⟨cs', h1⟩)
    rw [this]
    simp [Gh.ren, List.map_map, Function.comp_def]
  | any => trivial
  | sn e xs => exact h
  | slo B e xs => exact h
  | epo B e x off => exact h
theorem VR1.unren (hL : LeL r l L) {v : Value} {x : AVal} (h : VR1 g l w v (x.ren1 r)) : VR1 (g.ren r) L w v x := by
  cases x with
  | one x => exact CellR.unren hL h
  | agg xs =>
    obtain ⟨vs, h1, h2⟩ := h
    refine ⟨vs, h1, ?_⟩
    clear h1
    induction xs generalizing vs with
    | nil => cases vs <;> exact h2
    | cons x xs ih =>
      cases vs with
      | nil => exact h2
      | cons v vs => exact ⟨CellR.unren hL h2.1, ih vs h2.2⟩
  | tup xs => exact h
theorem VR.unren (hL : LeL r l L) {v : Value} {x : AVal} (h : VR g l w v (x.ren r)) : VR (g.ren r) L w v x := by
  cases x with
  | one x => exact CellR.unren hL h
  | agg xs => exact VR1.unren (x := .agg xs) hL h
  | tup xs =>
    obtain ⟨vs, h1, h2⟩ := h
    refine ⟨vs, h1, ?_⟩
    clear h1
    induction xs generalizing vs with
    | nil => cases vs <;> exact h2
    | cons x xs ih =>
      cases vs with
      | nil => exact h2
      | cons v vs => exact ⟨VR1.unren hL h2.1, ih vs h2.2⟩
theorem MemR.unren (hL : LeL r l L) (hi : injL r (keys L) = true) (m : MemR g l w) : MemR (g.ren r) L w where
  ilt := m.ilt
  box := fun k cs hk => by
    obtain ⟨b', h1, h2⟩ := hL.get hk
    obtain ⟨cs', rfl, h3⟩ := ren_box rfl h2
    obtain ⟨vs, t, h4, h5, h6⟩ := m.box _ cs' h1
    refine ⟨vs, t, h4, ?_, h6⟩
    have h7 := h3.all2 h5
    clear h5 h3 h2 h1 h4 hk
    generalize vs.toList = us at *
    induction cs generalizing us with
    | nil => cases us <;> exact h7
    | cons x xs ih =>
      cases us with
      | nil => exact h7
      | cons v us => exact ⟨CellR.unren hL h7.1, ih us h7.2⟩
  arr := fun k α T e xs d hk => by
    obtain ⟨b', h1, h2⟩ := hL.get hk
    exact m.arr (r k) α T e xs d (by rw [h1, ren_arr rfl h2])
  dis := fun j k b b' hjk hj hk lj lk => by
    obtain ⟨c, h1, h2⟩ := hL.get hj
    obtain ⟨c', h3, h4⟩ := hL.get hk
    refine m.dis (r j) (r k) c c' (injL.get hi (key_of_lkl hj) (key_of_lkl hk) hjk) h1 h3 ?_ ?_
    · cases b with
      | box cs => obtain ⟨cs', rfl, _⟩ := ren_box rfl h2; trivial
      | arr T e xs d => rw [ren_arr rfl h2]; exact lj
    · cases b' with
      | box cs => obtain ⟨cs', rfl, _⟩ := ren_box rfl h4; trivial
      | arr T e xs d => rw [ren_arr rfl h4]; exact lk
  fr := fun k α T e xs hk => by
    obtain ⟨b', h1, h2⟩ := hL.get hk
    exact m.fr (r k) α T e xs (by rw [h1, ren_arr rfl h2])
  fd := fun j k α β T U e f xs ys hjk hj hk => by
    obtain ⟨c, h1, h2⟩ := hL.get hj
    obtain ⟨c', h3, h4⟩ := hL.get hk
    exact m.fd (r j) (r k) α β T U e f xs ys (injL.get hi (key_of_lkl hj) (key_of_lkl hk) hjk) (by rw [h1, ren_arr rfl h2]) (by rw [h3, ren_arr rfl h4])
theorem OwnB.unren (hL : LeL r l L) {b : Nat} (h : OwnB (g.ren r) L b) : OwnB g l b := by
  obtain ⟨k, blk, hk, h⟩ := h
  obtain ⟨c, h1, h2⟩ := hL.get hk
  refine ⟨r k, c, h1, ?_⟩
  rcases h with ⟨hl, rfl⟩ | ⟨α, T, e, xs, rfl, hb⟩
  · left
    refine ⟨?_, rfl⟩
    cases blk with
    | box cs => obtain ⟨cs', rfl, _⟩ := ren_box rfl h2; trivial
    | arr T e xs d => rw [ren_arr rfl h2]; exact hl
  · exact .inr ⟨α, T, e, xs, ren_arr rfl h2, hb⟩
theorem Step.unren (hL : LeL r l L) (hK : LeK r l L K) : Step K g l w (g.ren r) L w where
  os := rfl
  tape := rfl
  output := rfl
  size := Nat.le_refl _
  keep := fun _ _ _ => rfl
  imm := fun _ h => h
  imm' := fun _ h => .inl h
  own := fun b hb => .inl (hb.unren hL)
  base := fun k hk hn => by
    obtain ⟨h1, h2, h3⟩ := hK.get hk
    refine ⟨h2.resolve_right hn, ⟨fun cs hc => ?_, fun α T e xs d hc => ?_⟩, h3⟩
    · obtain ⟨b', h4, h5⟩ := hL.get hc
      obtain ⟨cs', rfl, _⟩ := ren_box rfl h5
      rw [h1] at h4
      exact ⟨by simp [Gh.ren, h1], cs', h4⟩
    · obtain ⟨b', h4, h5⟩ := hL.get hc
      rw [ren_arr rfl h5, h1] at h4
      exact ⟨α, T, e, xs, d, h4, by simp [Gh.ren, h1], by simp [Gh.ren, h1], rfl⟩
end le
theorem Rep.le {K : List Nat} {N : Nat} {r : Nat → Nat} {s S : St} {g : Gh} {a : Act} {w : World} (h : LeS K r s S) (R : Rep N g s a w) : Rep N (g.ren r) S a w :=
  ⟨R.size, R.defers, fun k x hk => by
    obtain ⟨y, h1, h2⟩ := h.t.get hk
    exact VR.unren h.l (h2 _ _ _ _ (R.tmp k y h1)), R.mem.unren h.l h.inj⟩
theorem AW_le {P : Program} {N : Nat} {K : List Nat} {c : Code} {Kn : St → Prop} {Q : Exit → St → Prop} {s S : St} {r : Nat → Nat} (h : LeS K r s S) (hA : AW P N K c Kn Q S) : AW P N K c Kn Q s := fun g a w R =>
  Go.wp_mono (hA _ a w (R.le h)) fun e a1 w1 h1 => h1.trans R.mem (R.le h).mem (Step.unren h.l h.k)
/-- A loop whose rounds begin in states of a family. -/
theorem AW_loop {P : Program} {N : Nat} {K : List Nat} {c : Code} {Kn : St → Prop} {Q : Exit → St → Prop} {s : St} {ι : Type} (S : ι → St) (μ : ι → Nat) (i0 : ι) (r : Nat → Nat) (h0 : LeS K r s (S i0))
    (round : ∀ i, AW P N K c (fun s' => ∃ j r', LeS K r' s' (S j) ∧ μ j < μ i) Q (S i)) : AW P N K (.loop c) Kn Q s := fun g a w R => by
  have R0 := R.le h0
  refine wp_loop_ghost (fun n a1 w1 => ∃ i g1, μ i = n ∧ Rep N g1 (S i) a1 w1 ∧ Step K g s.l w g1 (S i).l w1) (μ i0) ⟨i0, _, rfl, R0, Step.unren h0.l h0.k⟩ ?_
  rintro n a1 w1 ⟨i, g1, hn, R1, hs1⟩
  refine Go.wp_mono (round i g1 a1 w1 R1) ?_
  rintro e a2 w2 ⟨g2, s2, R2, hs2, hR⟩
  have hs12 := hs1.trans R.mem R1.mem hs2
  cases e with
  | normal =>
    obtain ⟨j, r', hle, hlt⟩ := hR
    exact ⟨μ j, hn ▸ hlt, j, _, rfl, R2.le hle, hs12.trans R.mem R2.mem (Step.unren hle.l hle.k)⟩
  | exit id => exact ⟨g2, s2, R2, hs12, hR⟩
  | goto l => exact ⟨g2, s2, R2, hs12, hR⟩
  | ret => exact ⟨g2, s2, R2, hs12, hR⟩
  | panic ch => exact ⟨g2, s2, R2, hs12, hR⟩
  | outgrown => exact ⟨g2, s2, R2, hs12, hR⟩

/-! ### Loops: what a round changes is said, the rest stays as it is -/
def keepT (t : Tmps) : List Nat → Tmps
  | [] => []
  | k :: ks => match lk t k with | some x => (k, x) :: keepT t ks | none => keepT t ks
def keepL (l : Locs) : List Nat → Locs
  | [] => []
  | k :: ks => match lkl l k with | some x => (k, some x) :: keepL l ks | none => keepL l ks
theorem vle_bool {r : Nat → Nat} {a b : Bool} (h : a = b) : VLe (.one (.c (.bool a))) ((AVal.one (.c (.bool b))).ren r) := by subst h; exact VLe.rf
theorem vle_int {r : Nat → Nat} {k : IntKind} {a b : Int} (h : a = b) : VLe (.one (.c (.int k a))) ((AVal.one (.c (.int k b))).ren r) := by subst h; exact VLe.rf
theorem vle_str {r : Nat → Nat} {a b : ByteArray} (h : a = b) : VLe (.one (.c (.string a))) ((AVal.one (.c (.string b))).ren r) := by subst h; exact VLe.rf
theorem vle_sl {r : Nat → Nat} {α : Type} {e : Enc α} {a b : List α} (h : a = b) : VLe (.one (.sl e a)) ((AVal.one (.sl e b)).ren r) := by subst h; exact VLe.rf
theorem vle_eq {x y : AVal} (h : x = y) : VLe x y := by subst h; exact VLe.rf
theorem vle_any {r : Nat → Nat} {x : Cell} : VLe (.one x) ((AVal.one .any).ren r) := fun _ _ _ _ _ => trivial

theorem AW_loop2 {P : Program} {N : Nat} {K : List Nat} {c : Code} {Kn : St → Prop} {Q : Exit → St → Prop} {s : St} {ι : Type} (U : ι → Tmps) (V : ι → Locs) (ks ls : List Nat) (μ : ι → Nat) (i0 : ι) (r : Nat → Nat) (h0 : LeS K r s ⟨U i0 ++ keepT s.t ks, V i0 ++ keepL s.l ls⟩)
    (round : ∀ i, AW P N K c (fun s' => ∃ j r', LeS K r' s' ⟨U j ++ keepT s.t ks, V j ++ keepL s.l ls⟩ ∧ μ j < μ i) Q ⟨U i ++ keepT s.t ks, V i ++ keepL s.l ls⟩) : AW P N K (.loop c) Kn Q s :=
  AW_loop (fun i => ⟨U i ++ keepT s.t ks, V i ++ keepL s.l ls⟩) μ i0 r h0 round

/-! ### Functions -/
def Callable (P : Program) (f : FuncId) : Prop := ∃ fn c, P.funcs[f]? = some fn ∧ fn.body = some c ∧ (fn.name == "runtime.NumGoroutine") = false
/-- Called with such arguments, where such blocks are lent, the function returns such a value and leaves such blocks; nothing else has turned. -/
structure AC (P : Program) (f : FuncId) (args : List AVal) (L : Locs) (res : AVal) (L' : Locs) : Prop where
  fn : Callable P f
  run : ∀ (g : Gh) (w : World) (cargs : Array Value), MemR g L w → All2 (VR1 g L w) cargs.toList args →
    Calls P f cargs w fun e w' => ∃ v g', e = .returned v ∧ MemR g' L' w' ∧ VR g' L' w' v res ∧ Step (keys L) g L w g' L' w'

def args0 : List AVal → Nat → Tmps
  | [], _ => []
  | x :: r, k => (k, x) :: args0 r (k + 1)
theorem args0_get {g : Gh} {l : Locs} {w : World} : ∀ {xs : List AVal} {vs : List Value} {n k : Nat} {x : AVal}, All2 (VR1 g l w) vs xs → lk (args0 xs n) k = some x → ∃ i v, k = n + i ∧ vs[i]? = some v ∧ VR1 g l w v x
  | [], [], n, k, x, _, h => by simp [args0, lk] at h
  | y :: ys, v :: vs, n, k, x, h, hk => by
    by_cases e : n = k
    · subst e
      rw [args0, lk_cons_self] at hk
      cases hk
      exact ⟨0, v, rfl, rfl, h.1⟩
    · rw [args0, lk_cons_ne e] at hk
      obtain ⟨i, u, h1, h2, h3⟩ := args0_get h.2 hk
      exact ⟨i + 1, u, by omega, by simpa using h2, h3⟩
/-- How a body must end. -/
def RetS (K : List Nat) (T : Tmps) (L' : Locs) (s : St) : Prop := ∃ r, LeS K r s ⟨T, L'⟩
def RetQ (K : List Nat) (T : Tmps) (L' : Locs) : Exit → St → Prop
  | .ret, s => RetS K T L' s
  | _, _ => False
def AVal.flat : AVal → Bool
  | .tup _ => false
  | _ => true
theorem VR.vr1 {g : Gh} {l : Locs} {w : World} {v : Value} {x : AVal} (hx : x.flat = true) (h : VR g l w v x) : VR1 g l w v x := by
  cases x with
  | one x => exact h
  | agg xs => exact h
  | tup xs => cases hx
section body
variable {P : Program} {N : Nat} {f : FuncId} {fn : Func} {c : Code} {args : List AVal} {L L' : Locs}
theorem entry_rep {g : Gh} {w : World} {cargs : Array Value} (m : MemR g L w) (ha : All2 (VR1 g L w) cargs.toList args) (hN : args.length ≤ N) : Rep N g ⟨args0 args 0, L⟩ { tmps := cargs ++ Array.replicate (N - cargs.size) undef, defers := [] } w := by
  have hl : cargs.size = args.length := by simpa using ha.len
  refine ⟨by simp; omega, rfl, fun k x hk => ?_, m⟩
  obtain ⟨i, v, h1, h2, h3⟩ := args0_get ha hk
  rw [Nat.zero_add] at h1
  subst h1
  have hi : k < cargs.size := by have := (List.getElem?_eq_some_iff.1 h2).1; simpa using this
  have : (cargs ++ Array.replicate (N - cargs.size) undef).getD k undef = v := by
    have h4 : cargs[k]? = some v := by simpa using h2
    rw [Array.getD_eq_getD_getElem?, Array.getElem?_append_left hi, h4]; rfl
  show VR g L w ((cargs ++ Array.replicate (N - cargs.size) undef).getD k undef) x
  rw [this]; exact h3.vr
theorem AC_of {res : AVal} {T : Tmps} (hf : P.funcs[f]? = some fn) (hb : fn.body = some c) (hn : (fn.name == "runtime.NumGoroutine") = false) (hN : fn.ntmps = N) (hA : Nat.ble args.length N = true)
    (hr : ∀ (g : Gh) (a : Act) (w : World), Rep N g ⟨T, L'⟩ a w → ∃ v, (results fn a.tmps).run P w = .ok v w ∧ VR g L' w v res)
    (h : AW P N (keys L) c (RetS (keys L) T L') (RetQ (keys L) T L') ⟨args0 args 0, L⟩) : AC P f args L res L' := by
  refine ⟨⟨fn, c, hf, hb, hn⟩, fun g w cargs m ha => ?_⟩
  subst hN
  have R := entry_rep m ha (Nat.le_of_ble_eq_true hA)
  refine calls_of_wp hf hb (Go.wp_mono (h g _ w R) ?_)
  rintro e a1 w1 ⟨g1, s1, R1, hs, hR⟩
  have fin : RetS (keys L) T L' s1 → a1.defers = [] ∧ ∃ v, (results fn a1.tmps).run P w1 = .ok v w1 ∧ ∃ v' g', Ending.returned v = .returned v' ∧ MemR g' L' w1 ∧ VR g' L' w1 v' res ∧ Step (keys L) g L w g' L' w1 := by
    rintro ⟨r, hle⟩
    have R2 := R1.le hle
    obtain ⟨v, h1, h2⟩ := hr _ a1 w1 R2
    exact ⟨R1.defers, v, h1, v, _, rfl, R2.mem, h2, hs.trans m R1.mem (Step.unren hle.l hle.k)⟩
  cases e with
  | normal => exact fin hR
  | ret => exact fin hR
  | exit id => exact hR
  | goto l => exact hR
  | panic ch => exact hR.elim
  | outgrown => exact hR.elim
theorem AC_body0 (hf : P.funcs[f]? = some fn) (hb : fn.body = some c) (hn : (fn.name == "runtime.NumGoroutine") = false) (hN : fn.ntmps = N) (hA : Nat.ble args.length N = true) (hr : fn.results = #[])
    (h : AW P N (keys L) c (RetS (keys L) [] L') (RetQ (keys L) [] L') ⟨args0 args 0, L⟩) : AC P f args L (.tup []) L' :=
  AC_of hf hb hn hN hA (fun g a w R => ⟨_, results_none hr _ _ _, ⟨[], rfl, trivial⟩⟩) h
theorem AC_body1 {r : Nat} {x : AVal} (hf : P.funcs[f]? = some fn) (hb : fn.body = some c) (hn : (fn.name == "runtime.NumGoroutine") = false) (hN : fn.ntmps = N) (hA : Nat.ble args.length N = true) (hr : fn.results = #[.tmp r])
    (h : AW P N (keys L) c (RetS (keys L) [(r, x)] L') (RetQ (keys L) [(r, x)] L') ⟨args0 args 0, L⟩) : AC P f args L x L' :=
  AC_of hf hb hn hN hA (fun g a w R => ⟨_, results_tmp hr _ _ _, R.tmp r x lk_cons_self⟩) h
theorem AC_body2 {r1 r2 : Nat} {x1 x2 : AVal} (hf : P.funcs[f]? = some fn) (hb : fn.body = some c) (hn : (fn.name == "runtime.NumGoroutine") = false) (hN : fn.ntmps = N) (hA : Nat.ble args.length N = true) (hr : fn.results = #[.tmp r1, .tmp r2])
    (hne : Nat.beq r1 r2 = false) (f1 : x1.flat = true) (f2 : x2.flat = true) (h : AW P N (keys L) c (RetS (keys L) [(r1, x1), (r2, x2)] L') (RetQ (keys L) [(r1, x1), (r2, x2)] L') ⟨args0 args 0, L⟩) : AC P f args L (.tup [x1, x2]) L' :=
  AC_of hf hb hn hN hA (fun g a w R => ⟨_, results_tmp2 hr _ _ _, ⟨[a.tmps.getD r1 undef, a.tmps.getD r2 undef], rfl, (R.tmp r1 x1 lk_cons_self).vr1 f1, (R.tmp r2 x2 (by
    rw [lk_cons_ne (by intro e; subst e; simp at hne)]; exact lk_cons_self)).vr1 f2, trivial⟩⟩) h
theorem AC_body3 {r1 r2 r3 : Nat} {x1 x2 x3 : AVal} (hf : P.funcs[f]? = some fn) (hb : fn.body = some c) (hn : (fn.name == "runtime.NumGoroutine") = false) (hN : fn.ntmps = N) (hA : Nat.ble args.length N = true) (hr : fn.results = #[.tmp r1, .tmp r2, .tmp r3])
    (hne : Nat.beq r1 r2 = false) (hne' : Nat.beq r1 r3 = false) (hne'' : Nat.beq r2 r3 = false) (f1 : x1.flat = true) (f2 : x2.flat = true) (f3 : x3.flat = true)
    (h : AW P N (keys L) c (RetS (keys L) [(r1, x1), (r2, x2), (r3, x3)] L') (RetQ (keys L) [(r1, x1), (r2, x2), (r3, x3)] L') ⟨args0 args 0, L⟩) : AC P f args L (.tup [x1, x2, x3]) L' :=
  AC_of hf hb hn hN hA (fun g a w R => ⟨_, results_tmp3 hr _ _ _, ⟨[a.tmps.getD r1 undef, a.tmps.getD r2 undef, a.tmps.getD r3 undef], rfl, (R.tmp r1 x1 lk_cons_self).vr1 f1, (R.tmp r2 x2 (by
    rw [lk_cons_ne (by intro e; subst e; simp at hne)]; exact lk_cons_self)).vr1 f2, (R.tmp r3 x3 (by
    rw [lk_cons_ne (by intro e; subst e; simp at hne'), lk_cons_ne (by intro e; subst e; simp at hne'')]; exact lk_cons_self)).vr1 f3, trivial⟩⟩) h
end body

/-! ### A call -/
def evl (t : Tmps) : List Operand → Option (List AVal)
  | [] => some []
  | o :: r => match evo t o, evl t r with | some x, some xs => some (x :: xs) | _, _ => none
def rdl (t : Tmps) : List Operand → List (Nat × AVal)
  | [] => []
  | o :: r => (match evo t o with | some x => rdo o x | none => []) ++ rdl t r
theorem evl_ok {N : Nat} {t : Tmps} : ∀ {os : List Operand} {xs : List AVal}, evl t os = some xs → (∀ p ∈ rdl t os, lk t p.1 = some p.2) ∧
    ∀ {g : Gh} {s : St} {a : Act} {w : World}, Rep N g s a w → (∀ p ∈ rdl t os, lk s.t p.1 = some p.2) → All2 (VR g s.l w) (os.map a.eval) xs
  | [], xs, h => by cases h; exact ⟨fun p hp => (by cases hp), fun _ _ => trivial⟩
  | o :: r, xs, h => by
    simp only [evl] at h
    split at h
    · rename_i x ys h1 h2
      cases h
      obtain ⟨i1, i2⟩ := evl_ok (N := N) h2
      refine ⟨fun p hp => ?_, fun {g s a w} R hp => ?_⟩
      · simp only [rdl, h1] at hp
        rcases List.mem_append.1 hp with hp | hp
        · exact rdo_of h1 p hp
        · exact i1 p hp
      · simp only [rdl, h1] at hp
        exact ⟨eval_ok R (evs_of h1) fun p hm => hp p (List.mem_append_left _ hm), i2 R fun p hm => hp p (List.mem_append_right _ hm)⟩
    · cases h
def flats : List AVal → Bool
  | [] => true
  | x :: xs => x.flat && flats xs
theorem All2.vr1 {g : Gh} {l : Locs} {w : World} : ∀ {vs : List Value} {xs : List AVal}, flats xs = true → All2 (VR g l w) vs xs → All2 (VR1 g l w) vs xs
  | [], [], _, _ => trivial
  | v :: vs, x :: xs, hf, h => by
    simp only [flats, Bool.and_eq_true] at hf
    exact ⟨h.1.vr1 hf.1, All2.vr1 hf.2 h.2⟩
def caps (ks : List Nat) : List AVal := ks.map fun k => .one (.ptr k 0)
def sub (l : Locs) : Locs → Prop
  | [] => True
  | (k, some b) :: r => lkl l k = some b ∧ sub l r
  | (k, none) :: r => sub l r
def goneL (L : Locs) : Locs := L.map fun p => (p.1, none)
def closedIn (D : List Nat) (ids : List Nat) : Bool := ids.all fun i => D.any fun d => Nat.beq d i
def newOf (L L' : Locs) : List Nat := (keys L').filter fun k => !(keys L).any fun j => Nat.beq j k
def rlOf : Locs → List (Nat × Blk)
  | [] => []
  | (k, some b) :: r => (k, b) :: rlOf r
  | (_, none) :: r => rlOf r

theorem sub.get {l : Locs} : ∀ {L : Locs} {k : Nat} {b : Blk}, sub l L → lkl L k = some b → lkl l k = some b
  | [], k, b, _, h => by simp [lkl, lk] at h
  | (j, z) :: r, k, b, hL, h => by
    by_cases e : j = k
    · subst e; rw [lkl_cons_self] at h; subst h; exact hL.1
    · cases z with
      | none => rw [lkl_cons_ne e] at h; exact sub.get (L := r) hL h
      | some z => rw [lkl_cons_ne e] at h; exact sub.get hL.2 h
theorem rlOf_sub {l : Locs} : ∀ {L : Locs}, (∀ p ∈ rlOf L, lkl l p.1 = some p.2) → sub l L
  | [], _ => trivial
  | (k, some b) :: r, h => ⟨h (k, b) (List.mem_cons_self ..), rlOf_sub fun p hp => h p (List.mem_cons_of_mem _ hp)⟩
  | (k, none) :: r, h => rlOf_sub (L := r) h
theorem sub_rlOf {l : Locs} : ∀ {L : Locs}, sub l L → ∀ p ∈ rlOf L, lkl l p.1 = some p.2
  | [], _, p, hp => by cases hp
  | (k, some b) :: r, h, p, hp => by
    rcases List.mem_cons.1 hp with rfl | hp
    · exact h.1
    · exact sub_rlOf h.2 p hp
  | (k, none) :: r, h, p, hp => sub_rlOf (L := r) h p hp
theorem lk_none_iff {β : Type 1} {k : Nat} : ∀ {l : List (Nat × β)}, lk l k = none ↔ k ∉ keys l
  | [] => by simp [lk, keys]
  | (j, x) :: r => by
    by_cases e : j = k
    · subst e; rw [lk_cons_self]; simp [keys]
    · rw [lk_cons_ne e, lk_none_iff (l := r)]; simp [keys, Ne.symm e]
theorem lk_gone {L : Locs} {k : Nat} (h : k ∈ keys L) : lk (goneL L) k = some none := by
  unfold goneL
  induction L with
  | nil => cases h
  | cons p r ih =>
    obtain ⟨j, b⟩ := p
    by_cases e : j = k
    · subst e; exact lk_cons_self
    · rw [List.map_cons, lk_cons_ne e]
      refine ih ?_
      rcases List.mem_cons.1 h with h | h
      · exact absurd h.symm e
      · exact h
theorem keys_gone (L : Locs) : keys (goneL L) = keys L := by simp [keys, goneL, Function.comp_def]
theorem lkl_call {l L L' : Locs} (k : Nat) : lkl (L' ++ (goneL L ++ l)) k = if k ∈ keys L' then lkl L' k else if k ∈ keys L then none else lkl l k := by
  unfold lkl
  rw [lk_append, lk_append]
  by_cases h1 : k ∈ keys L'
  · rw [if_pos h1]
    have : lk L' k ≠ none := fun e => lk_none_iff.1 e h1
    cases hh : lk L' k with
    | none => exact absurd hh this
    | some x => rfl
  · rw [if_neg h1, lk_none_iff.2 h1]
    by_cases h2 : k ∈ keys L
    · rw [if_pos h2, lk_gone h2]; rfl
    · rw [if_neg h2, lk_none_iff.2 (by rw [keys_gone]; exact h2)]; rfl
theorem closedIn_get {D ids : List Nat} (h : closedIn D ids = true) {i : Nat} (hi : i ∈ ids) : i ∈ D := by
  have := List.all_eq_true.1 h i hi
  obtain ⟨d, h1, h2⟩ := List.any_eq_true.1 this
  rw [← Nat.eq_of_beq_eq_true h2]; exact h1
theorem OwnB.sub {g : Gh} {l L : Locs} (h : sub l L) {b : Nat} (ho : OwnB g L b) : OwnB g l b := by
  obtain ⟨k, blk, h1, h2⟩ := ho
  exact ⟨k, blk, h.get h1, h2⟩
theorem okK.sub {g : Gh} {l L : Locs} (h : sub l L) (k : Nat) : okK g l g L k :=
  ⟨fun cs hc => ⟨rfl, cs, h.get hc⟩, fun α T e xs d hc => ⟨α, T, e, xs, d, h.get hc, rfl, rfl, rfl⟩⟩
theorem MemR.sub {g : Gh} {l L : Locs} {w : World} (h : sub l L) (m : MemR g l w) : MemR g L w where
  ilt := m.ilt
  box := fun k cs hk => by
    obtain ⟨vs, t, h1, h2, h3⟩ := m.box k cs (h.get hk)
    exact ⟨vs, t, h1, h2.mono fun a b _ hr => hr.step (fun _ _ => rfl) (fun _ h => h) (Nat.le_refl _) fun k _ => okK.sub h k, h3⟩
  arr := fun k α T e xs d hk => m.arr k α T e xs d (h.get hk)
  dis := fun j k b b' hjk hj hk => m.dis j k b b' hjk (h.get hj) (h.get hk)
  fr := fun k α T e xs hk => m.fr k α T e xs (h.get hk)
  fd := fun j k α β T U e f xs ys hjk hj hk => m.fd j k α β T U e f xs ys hjk (h.get hj) (h.get hk)

open Classical in
/-- The names behind a call: those that were lent or made are the callee's. -/
def Gh.mix (g g' : Gh) (D : List Nat) : Gh := ⟨g'.I, fun k => if k ∈ D then g'.ρ k else g.ρ k, fun k => if k ∈ D then g'.hd k else g.hd k, fun k => if k ∈ D then g'.F k else g.F k⟩

theorem ArrR.same {g g' : Gh} {w : World} {k : Nat} {α : Type} {T : TypeId} {e : Enc α} {xs : List α} {d : Bool} (h1 : g'.ρ k = g.ρ k) (h2 : g'.hd k = g.hd k) (h3 : g'.F k = g.F k) (hI : g'.I = g.I) (h : ArrR g w k T e xs d) : ArrR g' w k T e xs d := by
  unfold ArrR at *
  rw [h1, h2, h3, hI]; exact h
theorem ArrR.move {g g' : Gh} {w w' : World} {k : Nat} {α : Type} {T : TypeId} {e : Enc α} {xs : List α} {d : Bool} (h1 : g'.ρ k = g.ρ k) (h2 : g'.hd k = g.hd k) (h3 : g'.F k = g.F k) (hm : ∀ b, g.I b → g'.I b) (hi : ∀ b, g.I b → w'.heap[b]? = w.heap[b]?) (hs : w.heap.size ≤ w'.heap.size)
    (hk : g.hd k ≠ .slice none 0 0 → w'.heap[g.ρ k]? = w.heap[g.ρ k]? ∧ ¬ g'.I (g.ρ k)) (h : ArrR g w k T e xs d) : ArrR g' w' k T e xs d := by
  rcases h with ⟨a1, a2, a3⟩ | ⟨cap, vs, bss, a1, a2, a3, a4, a5, a6, a7, a8, a9⟩
  · exact .inl ⟨a1, by rw [h2]; exact a2, fun hd => by rw [h3]; exact a3 hd⟩
  · obtain ⟨e1, e2⟩ := hk (by rw [a1]; intro e; cases e)
    refine .inr ⟨cap, vs, bss, by rw [h2, h1]; exact a1, a2, a3, by rw [h1, e1]; exact a4, a5, ?_, fun b hb => hm b (a7 b hb), by rw [h1]; exact e2, fun hd => by rw [h3]; exact a9 hd⟩
    rw [h1]
    exact a6.keep e1 (fun b hb => hi b (a7 b hb)) hs

def okL (L : Locs) : Bool := L.all fun p => p.2.isSome
theorem okL_get {L : Locs} (h : okL L = true) {k : Nat} (hk : k ∈ keys L) : ∃ b, lkl L k = some b := by
  induction L with
  | nil => cases hk
  | cons p r ih =>
    obtain ⟨j, x⟩ := p
    simp only [okL, List.all_cons, Bool.and_eq_true] at h
    by_cases e : j = k
    · subst e
      cases x with
      | none => cases h.1
      | some b => exact ⟨b, lkl_cons_self⟩
    · rw [lkl_cons_ne e]
      refine ih h.2 ?_
      rcases List.mem_cons.1 hk with h | h
      · exact absurd h.symm e
      · exact h
section call
variable {P : Program} {N : Nat}
/-- What a call leaves. -/
theorem call_mem {g g' : Gh} {l L L' : Locs} {w w' : World} (m : MemR g l w) (hsub : sub l L) (m' : MemR g' L' w') (hs : Step (keys L) g L w g' L' w') (hsc : closedIn (keys L') L'.ids = true)
    (hLs : okL L = true) (hnew : ∀ k ∈ newOf L L', lk l k = none ∧ k ∉ l.ids) (K : List Nat) :
    MemR (g.mix g' (keys L' ++ keys L)) (L' ++ (goneL L ++ l)) w' ∧ Step K g l w (g.mix g' (keys L' ++ keys L)) (L' ++ (goneL L ++ l)) w' ∧
    (∀ b, g.I b → w'.heap[b]? = w.heap[b]?) ∧ (∀ k, k ∉ newOf L L' → okK g l (g.mix g' (keys L' ++ keys L)) (L' ++ (goneL L ++ l)) k) ∧
    ∀ k, k ∈ keys L' → okK g' L' (g.mix g' (keys L' ++ keys L)) (L' ++ (goneL L ++ l)) k := by
  have mL := m.sub hsub
  have hi : ∀ b, g.I b → w'.heap[b]? = w.heap[b]? := fun b hb => mL.imm_keep hs hb
  have inD : ∀ {k}, k ∈ keys L' → (g.mix g' (keys L' ++ keys L)).ρ k = g'.ρ k ∧ (g.mix g' (keys L' ++ keys L)).hd k = g'.hd k ∧ (g.mix g' (keys L' ++ keys L)).F k = g'.F k := fun {k} h => by
    have : k ∈ keys L' ++ keys L := List.mem_append_left _ h
    simp only [Gh.mix, if_pos this, and_self]
  have outD : ∀ {k}, k ∉ keys L' → k ∉ keys L → (g.mix g' (keys L' ++ keys L)).ρ k = g.ρ k ∧ (g.mix g' (keys L' ++ keys L)).hd k = g.hd k ∧ (g.mix g' (keys L' ++ keys L)).F k = g.F k := fun {k} h1 h2 => by
    have : k ∉ keys L' ++ keys L := fun h => by rcases List.mem_append.1 h with h | h; exact h1 h; exact h2 h
    simp only [Gh.mix, if_neg this, and_self]
  have lkIn : ∀ {k}, k ∈ keys L' → lkl (L' ++ (goneL L ++ l)) k = lkl L' k := fun {k} h => by rw [lkl_call, if_pos h]
  have lkOut : ∀ {k}, k ∉ keys L' → k ∉ keys L → lkl (L' ++ (goneL L ++ l)) k = lkl l k := fun {k} h1 h2 => by rw [lkl_call, if_neg h1, if_neg h2]
  have lkGone : ∀ {k}, k ∉ keys L' → k ∈ keys L → lkl (L' ++ (goneL L ++ l)) k = none := fun {k} h1 h2 => by rw [lkl_call, if_neg h1, if_pos h2]
  generalize hl2 : L' ++ (goneL L ++ l) = l2 at *
  generalize hG : g.mix g' (keys L' ++ keys L) = G at *
  have GI : G.I = g'.I := by rw [← hG]; rfl
  have okIn : ∀ k, k ∈ keys L' → okK g' L' G l2 k := fun k h => okK.same (lkIn h) (inD h).1 (inD h).2.1
  have okAll : ∀ k, k ∉ newOf L L' → okK g l G l2 k := fun k hk => by
    by_cases h1 : k ∈ keys L'
    · have h2 : k ∈ keys L := by
        refine Classical.byContradiction fun h2 => hk (List.mem_filter.2 ⟨h1, ?_⟩)
        have : (keys L).any (fun j => Nat.beq j k) = false := List.any_eq_false.2 fun j hj hb => h2 (Nat.eq_of_beq_eq_true hb ▸ hj)
        rw [this]; rfl
      exact (okK.sub hsub k).trans ((hs.base k h2 (fun e => lk_none_iff.1 e h2)).2.1.trans (okIn k h1))
    · by_cases h2 : k ∈ keys L
      · exact okK.gone (lkGone h1 h2)
      · exact okK.same (lkOut h1 h2) (outD h1 h2).1 (outD h1 h2).2.1
  have okIds : ∀ k, k ∈ l.ids → okK g l G l2 k := fun k hk => okAll k fun h => (hnew k h).2 hk
  have out : ∀ {k b}, k ∉ keys L' → k ∉ keys L → lkl l k = some b → liv g k b → w'.heap[g.ρ k]? = w.heap[g.ρ k]? ∧ ¬ g'.I (g.ρ k) := fun {k b} h1 h2 hb hl => by
    have hne : ∀ j bj, lkl L j = some bj → liv g j bj → g.ρ k ≠ g.ρ j := fun j bj hj hlj => m.dis k j b bj (fun e => h2 (e ▸ key_of_lkl hj)) hb (hsub.get hj) hl hlj
    refine ⟨hs.keep _ (m.lt hb hl) hne, fun hI => ?_⟩
    rcases hs.imm' _ hI with h3 | h3 | ⟨j, bj, hj, ⟨hlj, e⟩ | ⟨α, T, e, xs, rfl, hF⟩⟩
    · exact m.notI hb hl h3
    · exact absurd (m.lt hb hl) (by omega)
    · exact hne j bj hj hlj e
    · exact m.notI hb hl ((mL.fr j α T e xs hj).2 _ hF).1
  have livIn : ∀ {k b}, k ∈ keys L' → liv G k b → liv g' k b := fun {k b} h hl => by
    cases b with
    | box cs => trivial
    | arr T e xs d => exact fun e => hl (by rw [(inD h).2.1]; exact e)
  have livOut : ∀ {k b}, k ∉ keys L' → k ∉ keys L → liv G k b → liv g k b := fun {k b} h1 h2 hl => by
    cases b with
    | box cs => trivial
    | arr T e xs d => exact fun e => hl (by rw [(outD h1 h2).2.1]; exact e)
  have three : ∀ {k b}, lkl l2 k = some b → (k ∈ keys L' ∧ lkl L' k = some b) ∨ (k ∉ keys L' ∧ k ∉ keys L ∧ lkl l k = some b) := fun {k b} h => by
    by_cases h1 : k ∈ keys L'
    · exact .inl ⟨h1, by rw [← lkIn h1]; exact h⟩
    · by_cases h2 : k ∈ keys L
      · rw [lkGone h1 h2] at h; cases h
      · exact .inr ⟨h1, h2, by rw [← lkOut h1 h2]; exact h⟩
  have cross : ∀ {j k b b'}, lkl L' j = some b → liv g' j b → k ∉ keys L → lkl l k = some b' → liv g k b' → g'.ρ j ≠ g.ρ k := fun {j k b b'} hj lj h2 hk lk e => by
    rcases hs.own _ (OwnB.of_live hj lj) with ⟨i, bi, h3, ⟨l3, e3⟩ | ⟨α, T, e', xs, rfl, hF⟩⟩ | h3
    · exact m.dis i k bi b' (fun e => h2 (e ▸ key_of_lkl h3)) (hsub.get h3) hk l3 lk (e3.symm.trans e)
    · exact m.notI hk lk (e ▸ ((mL.fr i α T e' xs h3).2 _ hF).1)
    · have := m.lt hk lk; omega
  have crossF : ∀ {j k : Nat} {α β : Type} {T U : TypeId} {e : Enc α} {f : Enc β} {xs : List α} {ys : List β}, lkl L' j = some (.arr T e xs true) → k ∉ keys L → lkl l k = some (.arr U f ys true) → ∀ b ∈ g'.F j, b ∉ g.F k := fun {j k α β T U e f xs ys} hj h2 hk b hb hb' => by
    have hIb := ((m.fr k β U f ys hk).2 b hb').1
    rcases hs.own b ⟨j, _, hj, .inr ⟨α, T, e, xs, rfl, hb⟩⟩ with ⟨i, bi, h3, ⟨l3, e3⟩ | ⟨γ, V, e', zs, rfl, hF⟩⟩ | h3
    · exact mL.notI h3 l3 (e3 ▸ hIb)
    · exact m.fd i k γ β V U e' f zs ys (fun e => h2 (e ▸ key_of_lkl h3)) (hsub.get h3) hk b hF hb'
    · have := m.ilt b hIb; omega
  have hmem : MemR G l2 w' := by
    refine ⟨fun b hb => m'.ilt b (by rw [← GI]; exact hb), fun k cs hk => ?_, fun k α T e xs d hk => ?_, fun i j b b' hij h1 h2 l1 l2' => ?_, fun k α T e xs hk => ?_, fun i j α β T U e f xs ys hij h1 h2 b hb hb' => ?_⟩
    · rcases three hk with ⟨h1, h2⟩ | ⟨h1, h2, h3⟩
      · obtain ⟨vs, t, a1, a2, a3⟩ := m'.box k cs h2
        refine ⟨vs, t, by rw [(inD h1).1]; exact a1, a2.mono fun a x hx hr => hr.step (fun _ _ => rfl) (fun _ h => by rw [GI]; exact h) (Nat.le_refl _) fun i hi => okIn i (closedIn_get hsc (Locs.ids_mem h2 hx hi)), by rw [(inD h1).1, GI]; exact a3⟩
      · obtain ⟨vs, t, a1, a2, a3⟩ := m.box k cs h3
        obtain ⟨u1, u2⟩ := out h1 h2 h3 trivial
        exact ⟨vs, t, by rw [(outD h1 h2).1, u1]; exact a1, a2.mono fun a x hx hr => hr.step hi (fun _ h => by rw [GI]; exact hs.imm _ h) hs.size fun i hi => okIds i (Locs.ids_mem h3 hx hi), by rw [(outD h1 h2).1, GI]; exact u2⟩
    · rcases three hk with ⟨h1, h2⟩ | ⟨h1, h2, h3⟩
      · exact (m'.arr k α T e xs d h2).same (inD h1).1 (inD h1).2.1 (inD h1).2.2 GI
      · exact (m.arr k α T e xs d h3).move (outD h1 h2).1 (outD h1 h2).2.1 (outD h1 h2).2.2 (fun _ h => by rw [GI]; exact hs.imm _ h) hi hs.size (fun hl => by rw [GI]; exact out h1 h2 h3 hl)
    · rcases three h1 with ⟨a1, a2⟩ | ⟨a1, a2, a3⟩
      · rcases three h2 with ⟨c1, c2⟩ | ⟨c1, c2, c3⟩
        · rw [(inD a1).1, (inD c1).1]; exact m'.dis i j b b' hij a2 c2 (livIn a1 l1) (livIn c1 l2')
        · rw [(inD a1).1, (outD c1 c2).1]; exact cross a2 (livIn a1 l1) c2 c3 (livOut c1 c2 l2')
      · rcases three h2 with ⟨c1, c2⟩ | ⟨c1, c2, c3⟩
        · rw [(outD a1 a2).1, (inD c1).1]; exact Ne.symm (cross c2 (livIn c1 l2') a2 a3 (livOut a1 a2 l1))
        · rw [(outD a1 a2).1, (outD c1 c2).1]; exact m.dis i j b b' hij a3 c3 (livOut a1 a2 l1) (livOut c1 c2 l2')
    · rcases three hk with ⟨h1, h2⟩ | ⟨h1, h2, h3⟩
      · rw [(inD h1).2.2, GI]; exact m'.fr k α T e xs h2
      · rw [(outD h1 h2).2.2, GI]
        obtain ⟨a1, a2⟩ := m.fr k α T e xs h3
        exact ⟨a1, fun b hb => by
          obtain ⟨a3, c, t, a4⟩ := a2 b hb
          exact ⟨hs.imm b a3, c, t, (hi b a3).trans a4⟩⟩
    · rcases three h1 with ⟨a1, a2⟩ | ⟨a1, a2, a3⟩
      · rw [(inD a1).2.2] at hb
        rcases three h2 with ⟨c1, c2⟩ | ⟨c1, c2, c3⟩
        · rw [(inD c1).2.2] at hb'; exact m'.fd i j α β T U e f xs ys hij a2 c2 b hb hb'
        · rw [(outD c1 c2).2.2] at hb'; exact crossF a2 c2 c3 b hb hb'
      · rw [(outD a1 a2).2.2] at hb
        rcases three h2 with ⟨c1, c2⟩ | ⟨c1, c2, c3⟩
        · rw [(inD c1).2.2] at hb'; exact crossF c2 a2 a3 b hb' hb
        · rw [(outD c1 c2).2.2] at hb'; exact m.fd i j α β T U e f xs ys hij a3 c3 b hb hb'
  have key2 : ∀ k, lk l k ≠ none → lk l2 k ≠ none := fun k hk => by
    rw [← hl2, lk_append, lk_append]
    cases lk L' k with
    | some x => simp
    | none =>
      cases lk (goneL L) k with
      | some x => simp
      | none => simpa using hk
  refine ⟨hmem, ⟨hs.os, hs.tape, hs.output, hs.size, fun b hb hn => hs.keep b hb fun k blk hk hl => hn k blk (hsub.get hk) hl, fun b hb => by rw [GI]; exact hs.imm b hb, fun b hb => ?_, fun b hb => ?_, fun k hkK hkn => ⟨key2 k hkn, okAll k fun h => hkn (hnew k h).1, fun cs hc => ?_⟩⟩, hi, okAll, okIn⟩
  · rw [GI] at hb
    rcases hs.imm' b hb with h | h | h
    · exact .inl h
    · exact .inr (.inl h)
    · exact .inr (.inr (h.sub hsub))
  · obtain ⟨k, blk, hk, h⟩ := hb
    rcases three hk with ⟨h1, h2⟩ | ⟨h1, h2, h3⟩
    · have : OwnB g' L' b := ⟨k, blk, h2, by
        rcases h with ⟨hl, e⟩ | ⟨α, T, e, xs, e1, hF⟩
        · exact .inl ⟨livIn h1 hl, by rw [← (inD h1).1]; exact e⟩
        · exact .inr ⟨α, T, e, xs, e1, by rw [← (inD h1).2.2]; exact hF⟩⟩
      rcases hs.own b this with h3 | h3
      · exact .inl (h3.sub hsub)
      · exact .inr h3
    · left
      refine ⟨k, blk, h3, ?_⟩
      rcases h with ⟨hl, e⟩ | ⟨α, T, e, xs, e1, hF⟩
      · exact .inl ⟨livOut h1 h2 hl, by rw [← (outD h1 h2).1]; exact e⟩
      · exact .inr ⟨α, T, e, xs, e1, by rw [← (outD h1 h2).2.2]; exact hF⟩
  · by_cases h1 : k ∈ keys L
    · obtain ⟨b, hb⟩ := okL_get hLs h1
      have hbl := hsub.get hb
      rw [hc] at hbl; cases hbl
      obtain ⟨cs', h3⟩ := (hs.base k h1 (fun e => lk_none_iff.1 e h1)).2.2 cs hb
      exact ⟨cs', by rw [lkIn (key_of_lkl h3)]; exact h3⟩
    · have h2 : k ∉ keys L' := fun h => by
        have : k ∈ newOf L L' := List.mem_filter.2 ⟨h, by
          have : (keys L).any (fun j => Nat.beq j k) = false := List.any_eq_false.2 fun j hj hb => h1 (Nat.eq_of_beq_eq_true hb ▸ hj)
          rw [this]; rfl⟩
        exact hkn (hnew k this).1
      exact ⟨cs, by rw [lkOut h2 h1]; exact hc⟩

theorem run_enter {o : Oper} {a : Act} {w : World} {fo : Operand} {f : FuncId} {cap : Array Value} {as : Array Operand} {ats : Array TypeId} (hop : o.op = .call { callee := .value fo, args := as, argTypes := ats }) (hf : Callable P f) (hv : a.eval fo = .func (.func f) #[] cap) :
    (execOp a.eval o).run P w = .ok (.enter f ((as.map a.eval) ++ cap)) w := by
  obtain ⟨fn, c, h1, h2, h3⟩ := hf
  have h4 : fn.body.isNone = false := by rw [h2]; rfl
  unfold execOp
  simp only [hop, resolve, hv, Deferred.ofValue, Sem.run_bind, Sem.run_pure, Result.andThen_ok, invoke, callFunc, program, Sem.run, h1, h3, h4, Array.empty_append]
  simp

/-- A call of a function by its contract. -/
theorem OpOK.call {o : Oper} {d : Nat} {fo : Operand} {f : FuncId} {ks : List Nat} {as : Array Operand} {ats : Array TypeId} {t0 : Tmps} {xs ys : List AVal} {L L' : Locs} {res : AVal} (hop : o.op = .call { callee := .value fo, args := as, argTypes := ats }) (hd : o.dst = some d) (hN : d < N)
    (hev : evo t0 fo = some (.one (.clo f ks))) (hxs : evl t0 as.toList = some xs) (hfl : flats xs = true) (hac : AC P f ys L res L') (hle : AllV (xs ++ caps ks) ys) (hks : ∀ k ∈ ks, ∃ cs, (k, some (Blk.box cs)) ∈ L)
    (hLs : okL L = true) (hsc : closedIn (keys L') L'.ids = true) (hsr : closedIn (keys L') res.ids = true) : OpOK P N o ⟨rdo fo (.one (.clo f ks)) ++ rdl t0 as.toList, rlOf L, [(d, res)], L' ++ goneL L, newOf L L'⟩ := by
  intro K g s a w hp R
  obtain ⟨p1, p2, p3⟩ := hp
  have hsub : sub s.l L := rlOf_sub p2
  have q1 : ∀ p ∈ rdo fo (.one (.clo f ks)), lk s.t p.1 = some p.2 := fun p hm => p1 p (List.mem_append_left _ hm)
  have q2 : ∀ p ∈ rdl t0 as.toList, lk s.t p.1 = some p.2 := fun p hm => p1 p (List.mem_append_right _ hm)
  have hfv : VR g s.l w (a.eval fo) (.one (.clo f ks)) := eval_ok R (evs_of hev) q1
  have hkl : ∀ k ∈ ks, ∃ cs, lkl s.l k = some (.box cs) := fun k hk => by
    obtain ⟨cs, h1⟩ := hks k hk
    have h2 := p2
    have : ∀ {M : Locs}, (k, some (Blk.box cs)) ∈ M → (k, Blk.box cs) ∈ rlOf M := by
      intro M
      induction M with
      | nil => intro h; cases h
      | cons p r ih =>
        obtain ⟨j, x⟩ := p
        intro h0
        rcases List.mem_cons.1 h0 with h | h
        · cases h; exact List.mem_cons_self ..
        · clear h0
          cases x with
          | none => exact ih h
          | some b => exact List.mem_cons_of_mem _ (ih h)
    exact ⟨cs, p2 _ (this h1)⟩
  have hfe : a.eval fo = .func (.func f) #[] (ks.map fun k => Value.pointer (some ⟨g.ρ k, 0, none⟩)).toArray := hfv hkl
  have hargs : All2 (VR1 g s.l w) ((as.map a.eval) ++ (ks.map fun k => Value.pointer (some ⟨g.ρ k, 0, none⟩)).toArray).toList ys := by
    refine hle.all2 ?_
    rw [Array.toList_append, Array.toList_map]
    refine (((evl_ok hxs).2 R q2).vr1 hfl).app ?_
    show All2 (VR1 g s.l w) (ks.map _) (caps ks)
    clear hkl hle hks hfv hev q1 p1 p2 p3 hac hfe hop
    induction ks with
    | nil => trivial
    | cons k ks ih => exact ⟨fun cs _ => rfl, ih⟩
  unfold Oper.wp
  rw [run_enter hop hac.fn hfe, Oper.upon_enter]
  have mL := R.mem.sub hsub
  refine (hac.run g w _ mL (hargs.mono fun v x _ hr => VR1.step (fun _ _ => rfl) (fun _ h => h) (Nat.le_refl _) (fun k _ => okK.sub hsub k) hr)).mono ?_
  rintro e w' ⟨v, g', rfl, m', hv, hs⟩
  have hnw : ∀ k ∈ newOf L L', lk s.l k = none ∧ k ∉ s.l.ids := fun k hk => ⟨(p3 k hk).1, fun h => (p3 k hk).2 (List.mem_append_right _ h)⟩
  obtain ⟨c1, c2, c3, c4, c5⟩ := call_mem R.mem hsub m' hs hsc hLs hnw K
  have hmm : ∀ b, g.I b → (g.mix g' (keys L' ++ keys L)).I b := fun b hb => hs.imm b hb
  show ∃ g2, Rep N g2 ⟨[(d, res)] ++ s.t, (L' ++ goneL L) ++ s.l⟩ (a.put o.dst v) w' ∧ Step K g s.l w g2 ((L' ++ goneL L) ++ s.l) w'
  rw [List.append_assoc, hd]
  exact ⟨_, R.next hN c3 hmm hs.size (fun k hk => c4 k fun h => (p3 k h).2 hk) (VR.step (g := g') (l := L') (fun _ _ => rfl) (fun b hb => hb) (Nat.le_refl _) (fun k hk => c5 k (closedIn_get hsr hk)) hv) c1, c2⟩
end call
end Go.Proofs.Ytcgickpnckedcaa

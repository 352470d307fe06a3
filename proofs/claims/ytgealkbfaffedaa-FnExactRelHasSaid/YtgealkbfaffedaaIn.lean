/- Regions that draw their order, whose operations read and whose callees read and may lay blocks of their own: one walk, in the order of the text. -/
import Derived.Test.YtgealkbfaffedaaRow
import Derived.Deep.QuietTactic
namespace Go.Proofs.Ytgealkbfaffedaa
open Go.RowKit
set_option linter.unusedVariables false

/-- A world behind W, in which all of W's blocks stand as they were. -/
structure In (W : World) where
  val : World
  below : Below W.heap.size W val
instance {W : World} : Inhabited (In W) := ⟨⟨W, Below.refl _ _⟩⟩
theorem In.of {W w' : World} (h : ∃ p : In W, w' = p.val) : Below W.heap.size W w' := by obtain ⟨p, rfl⟩ := h; exact p.below
theorem Kept.in_ {w W : World} {L : List (Addr × Value)} (K : Kept w L W) {a : Addr} {v : Value} (h : (a, v) ∈ L) : ∀ p : In W, p.val.cell? a = some v := fun p => (K.up p.below).2 _ h

/-- The walk of what is left of a region, kept shut: laid open by unification its guards are reckoned again and again. -/
@[irreducible] def wpIn (P : Program) (ops : Array Oper) (W : World) (Q : Act → Prop) (l : List Oper) (a : Act) : Prop := wpQuiet P ops (fun w' => ∃ p : In W, w' = p.val) Q l a

theorem wp_region_quiet_in {P : Program} {id : Nat} {Q : Exit → Act → World → Prop} {a : Act} {w : World} {l : List Oper} (hm : P.follows .mixedOrders = true) (hB : Region.lexB .any l.toArray = true)
    (h : wpIn P l.toArray w (fun a' => ∀ w', (∃ p : In w, w' = p.val) → Q .normal a' w') l a) : (Code.region id l.toArray true).wp P Q a w :=
  wp_region_quiet (C := fun w' => ∃ p : In w, w' = p.val) hm hB ⟨⟨w.drew, below_drewN (Below.refl _ _) 1⟩, rfl⟩ (by unfold wpIn at h; simpa using h)

theorem Calls_in {P : Program} {f : FuncId} {args : Array Value} {W : World} {p : In W} {v : Value}
    (h : Calls P f args p.val fun e w' => e = .returned v ∧ Below p.val.heap.size p.val w') : Calls P f args p.val fun e w'' => e = .returned v ∧ ∃ q : In W, w'' = q.val :=
  h.mono fun _ w' ⟨he, hb⟩ => ⟨he, ⟨w', below_up p.below hb (Nat.le_refl _)⟩, rfl⟩
theorem Calls_in_same {P : Program} {f : FuncId} {args : Array Value} {W : World} {p : In W} {v : Value}
    (h : Calls P f args p.val fun e w' => e = .returned v ∧ p.val = w') : Calls P f args p.val fun e w'' => e = .returned v ∧ ∃ q : In W, w'' = q.val :=
  h.mono fun _ w' ⟨he, hb⟩ => ⟨he, p, hb.symm⟩

theorem wpIn_on {P : Program} {ops : Array Oper} {W : World} {Q : Act → Prop} {a : Act} {o : Oper} {rest : List Oper} (hw : Region.wanted o (yielded ops a.tmps) = true)
    (h : ∀ K : Act → Prop, (∀ a, wpIn P ops W Q rest a → K a) → o.quiet P a (fun w' => ∃ p : In W, w' = p.val) K) : wpIn P ops W Q (o :: rest) a := by
  unfold wpIn at h ⊢
  exact wpQuiet_step fun K hK => by rw [if_pos hw]; exact h K hK
theorem wpIn_off {P : Program} {ops : Array Oper} {W : World} {Q : Act → Prop} {a : Act} {o : Oper} {rest : List Oper} (hw : Region.wanted o (yielded ops a.tmps) = false)
    (h : wpIn P ops W Q rest (a.put o.dst undef)) : wpIn P ops W Q (o :: rest) a := by
  unfold wpIn at h ⊢
  exact wpQuiet_step fun K hK => by rw [if_neg (by simp [hw])]; exact hK _ h
theorem wpIn_nil {P : Program} {ops : Array Oper} {W : World} {Q : Act → Prop} {a : Act} (h : Q a) : wpIn P ops W Q [] a := by
  unfold wpIn
  exact wpQuiet_nil h

open Lean Elab Tactic Meta in
/-- Succeeds where one operation at least is left of the walk. -/
elab "in_more" : tactic => withMainContext do
  let t := (← instantiateMVars (← getMainTarget)).consumeMData
  unless t.isAppOf ``wpIn && (t.getAppArgs[4]!).consumeMData.isAppOf ``List.cons do throwError "in_more: none is left"

open Lean Elab Tactic Meta in
/-- Which way the next operation's guard is, read by the kernel: succeeds where the operation is wanted. -/
elab "in_wanted" : tactic => withMainContext do
  let t := (← instantiateMVars (← getMainTarget)).consumeMData
  unless t.isAppOf ``wpIn && (t.getAppArgs[4]!).consumeMData.isAppOf ``List.cons do throwError "in_wanted: none is left"
  let o := (t.getAppArgs[4]!).consumeMData.getAppArgs[1]!
  let e ← mkAppM ``Region.wanted #[o, ← mkAppM ``yielded #[t.getAppArgs[1]!, ← mkAppM ``Act.tmps #[t.getAppArgs[5]!]]]
  unless ← kernelBool e do throwError "in_wanted: its guard is off"
open Lean Elab Tactic Meta in
elab "in_unwanted" : tactic => withMainContext do
  let t := (← instantiateMVars (← getMainTarget)).consumeMData
  unless t.isAppOf ``wpIn && (t.getAppArgs[4]!).consumeMData.isAppOf ``List.cons do throwError "in_wanted: none is left"
  let o := (t.getAppArgs[4]!).consumeMData.getAppArgs[1]!
  let e ← mkAppM ``Region.wanted #[o, ← mkAppM ``yielded #[t.getAppArgs[1]!, ← mkAppM ``Act.tmps #[t.getAppArgs[5]!]]]
  if ← kernelBool e then throwError "in_wanted: its guard is on"

macro "in_step " "(" tac:tactic ")" : tactic => `(tactic|
  (in_more
   first
     | (in_wanted
        refine wpIn_on (by kernel_rfl) (fun K hK => ?_)
        go_simp
        first
          | (refine hK _ ?_; clear hK K)
          | (apply Exists.intro
             refine ⟨fun $(Lean.mkIdent `pq) => ?_, hK _ ?_⟩
             ($tac:tactic)
             clear hK K))
     | (in_unwanted
        refine wpIn_off (by kernel_rfl) ?_
        simp only [Act.put, List.setIfInBounds_toArray, List.set_cons_zero, List.set_cons_succ])))

macro "go_quiet_in " "(" tac:tactic ")" : tactic => `(tactic|
  (refine wp_region_quiet_in (by kernel_rfl) (by kernel_rfl) ?_
   repeat (in_step ($tac:tactic))
   refine wpIn_nil ?_
   intro $(Lean.mkIdent `wq) hw'
   have $(Lean.mkIdent `hq) := In.of hw'
   clear hw'))
end Go.Proofs.Ytgealkbfaffedaa

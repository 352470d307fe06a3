/- The abstract walk: a slice is nil or it is not. -/
import Derived.Test.YtcgickpnckedcaaAbsFp
namespace Go.Proofs.Ytcgickpnckedcaa
open Go.RowKit
set_option linter.unusedVariables false
def caught (L : Locs) (ks : List Nat) : Bool := ks.all fun k => L.any fun p => Nat.beq p.1 k && (match p.2 with | some (.box _) => true | _ => false)
theorem caught_of {L : Locs} {ks : List Nat} (h : caught L ks = true) : ∀ k ∈ ks, ∃ cs, (k, some (Blk.box cs)) ∈ L := fun k hk => by
  obtain ⟨⟨j, b⟩, h1, h2⟩ := List.any_eq_true.1 (List.all_eq_true.1 h k hk)
  simp only [Bool.and_eq_true] at h2
  have e := Nat.eq_of_beq_eq_true h2.1
  subst e
  match b, h2.2, h1 with
  | some (.box cs), _, h1 => exact ⟨cs, h1⟩
section rules
variable {P : Program} {N : Nat} {K : List Nat} {Kn : St → Prop} {Q : Exit → St → Prop} {s : St}
theorem AW_split {α : Type} {e : Enc α} {xs : List α} {c : Code} (t : Nat) (h : lk s.t t = some (.one (.sl e xs))) (h1 : xs = [] → AW P N K c Kn Q ⟨(t, .one (.c (.slice none 0 0))) :: s.t, s.l⟩)
    (h2 : AW P N K c Kn Q ⟨(t, .one (.sn e xs)) :: s.t, s.l⟩) : AW P N K c Kn Q s := fun g a w r => by
  obtain ⟨ad, n, cap, bs, hv, hS, hI⟩ : CellR g s.l w (a.tmps.getD t undef) (.sl e xs) := r.tmp t _ h
  have up : ∀ {x : AVal}, VR g s.l w (a.tmps.getD t undef) x → Rep N g ⟨(t, x) :: s.t, s.l⟩ a w := fun {x} hx => ⟨r.size, r.defers, fun j y hj => by
    by_cases e : t = j
    · subst e; rw [lk_cons_self] at hj; cases hj; exact hx
    · rw [lk_cons_ne e] at hj; exact r.tmp j y hj, r.mem⟩
  cases ad with
  | none =>
    have hc := hS.2.2.2.1 rfl
    have hn : n = 0 := by have := hS.2.1; omega
    have hx : xs = [] := List.eq_nil_of_length_eq_zero (by have := hS.1; omega)
    subst hc; subst hn
    exact h1 hx g a w (up (x := .one (.c (.slice none 0 0))) ⟨hv, trivial⟩)
  | some ad => exact h2 g a w (up (x := .one (.sn e xs)) ⟨ad, n, cap, bs, hv, hS, hI⟩)
end rules
section names
variable {P : Program} {N : Nat} {dr : Bool} {ops r : List Oper} {opsA : Array Oper} {Kn : St → Prop} {s : St} {acc : List Cert}
/-- A truth value that a call with lent blocks returns gets a name. -/
theorem AL_bc {d : Nat} {op : Op} {ty : TypeId} {pos : String} {after : Array Edge} {e : Bool} {l' wl : Locs} {nw : List Nat} {rt : List (Nat × AVal)} {rl : List (Nat × Blk)} (h : Stp P N ⟨some d, op, ty, pos, after, none⟩ s ⟨(d, .one (.c (.bool e))) :: s.t, l'⟩ ⟨rt, rl, [(d, .one (.c (.bool e)))], wl, nw⟩)
    (next : ∀ b, e = b → AL P N dr opsA Kn r ⟨(d, .one (.c (.bool b))) :: s.t, l'⟩ (⟨rt, rl, [(d, .one (.c (.bool b)))], wl, nw⟩ :: acc)) : AL P N dr opsA Kn (⟨some d, op, ty, pos, after, none⟩ :: r) s acc :=
  AL_p h (next e rfl)
theorem AL_gbc {d : Nat} {op : Op} {ty : TypeId} {pos : String} {after : Array Edge} {j t : Nat} {g : Bool} {e : Bool} {l' wl : Locs} {nw : List Nat} {rt : List (Nat × AVal)} {rl : List (Nat × Blk)} (hj : gslot opsA j = some t) (hb : lk s.t t = some (.one (.c (.bool g))))
    (h : Stp P N ⟨some d, op, ty, pos, after, some (j, g)⟩ s ⟨(d, .one (.c (.bool e))) :: s.t, l'⟩ ⟨rt, rl, [(d, .one (.c (.bool e)))], wl, nw⟩)
    (next : ∀ b, e = b → AL P N dr opsA Kn r ⟨(d, .one (.c (.bool b))) :: s.t, l'⟩ (⟨(t, .one (.c (.bool g))) :: rt, rl, [(d, .one (.c (.bool b)))], wl, nw⟩ :: acc)) : AL P N dr opsA Kn (⟨some d, op, ty, pos, after, some (j, g)⟩ :: r) s acc :=
  AL_g hj hb h (next e rfl)
end names
section ops
variable {P : Program} {N : Nat} {s : St} {d : Nat} {ty : TypeId} {pos : String} {after : Array Edge} {gd : Option (Nat × Bool)}
theorem guard_slice {op : BinOp} {T : TypeId} {x y : Operand} {a b : Option Addr} {n c m k : Nat} {w : World} : (eqGuard op T x y (.slice a n c) (.slice b m k)).run P w = .ok () w := by cases op <;> rfl
theorem x_nilnil {T T' E n : Nat} {x y : Operand} (hN : Nat.blt d N = true) (h : evo s.t x = some (.one (.c (.slice none 0 0)))) (h2 : evo s.t y = some (.one (.c (.slice none 0 0)))) (hT : sliceT P T = some (E, n)) :
    Stp P N ⟨some d, .binOp .eql T x y T', ty, pos, after, gd⟩ s ⟨(d, .one (.c (.bool true))) :: s.t, s.l⟩ ⟨rdo x (.one (.c (.slice none 0 0))) ++ rdo y (.one (.c (.slice none 0 0))), [], [(d, .one (.c (.bool true)))], [], []⟩ :=
  Stp.pure rfl hN (two_rd h h2) (by simp) fun g s' a w ht hl' r => by
    obtain ⟨⟨e1, _⟩, e2, _⟩ := two_c r (evs_of h) (evs_of h2) ht
    refine ⟨.bool true, run_binOp rfl ?_, rfl, trivial⟩
    rw [e1, e2]
    simp only [Sem.run_bind, guard_slice, Result.andThen_ok, Lib.run_eql_slice_nil w T E none 0 0 0 0 (sliceT_spec hT).1]; rfl
theorem x_snnil {α : Type} {e : Enc α} {xs : List α} {T T' E n : Nat} {x y : Operand} (hN : Nat.blt d N = true) (h : evo s.t x = some (.one (.sn e xs))) (h2 : evo s.t y = some (.one (.c (.slice none 0 0)))) (hT : sliceT P T = some (E, n)) :
    Stp P N ⟨some d, .binOp .eql T x y T', ty, pos, after, gd⟩ s ⟨(d, .one (.c (.bool false))) :: s.t, s.l⟩ ⟨rdo x (.one (.sn e xs)) ++ rdo y (.one (.c (.slice none 0 0))), [], [(d, .one (.c (.bool false)))], [], []⟩ :=
  Stp.pure rfl hN (two_rd h h2) (by simp) fun g s' a w ht hl' r => by
    obtain ⟨ad, m, cap, bs, e1, _⟩ : CellR g s'.l w (a.eval x) (.sn e xs) := eval_ok r (evs_of h) fun p hp => ht p (List.mem_append_left _ hp)
    obtain ⟨e2, _⟩ : a.eval y = .slice none 0 0 ∧ wfV _ := eval_ok r (evs_of h2) fun p hp => ht p (List.mem_append_right _ hp)
    refine ⟨.bool false, run_binOp rfl ?_, rfl, trivial⟩
    rw [e1, e2]
    simp only [Sem.run_bind, guard_slice, Result.andThen_ok, Lib.run_eql_slice_nil w T E (some ad) m cap 0 0 (sliceT_spec hT).1]; rfl
theorem x_move_sn {α : Type} {e : Enc α} {xs : List α} {x : Operand} (hN : Nat.blt d N = true) (h : evo s.t x = some (.one (.sn e xs))) : Stp P N ⟨some d, .move x, ty, pos, after, gd⟩ s ⟨(d, .one (.sl e xs)) :: s.t, s.l⟩ ⟨rdo x (.one (.sn e xs)), [], [(d, .one (.sl e xs))], [], []⟩ :=
  Stp.pure rfl hN (rdo_of h) (by simp) fun g s' a w ht hl' r => by
    obtain ⟨ad, m, cap, bs, e1, e2, e3⟩ : CellR g s'.l w (a.eval x) (.sn e xs) := eval_ok r (evs_of h) ht
    exact ⟨a.eval x, by simp [execOp], some ad, m, cap, bs, e1, e2, e3⟩
end ops
/-- What lies in memory is not too long. -/
theorem AW_slmax {P : Program} {N : Nat} {K : List Nat} {c : Code} {Kn : St → Prop} {Q : Exit → St → Prop} {s : St} {α : Type} {e : Enc α} {xs : List α} (t : Nat) (h : lk s.t t = some (.one (.sl e xs))) (hA : xs.length ≤ 9223372036854775807 → AW P N K c Kn Q s) : AW P N K c Kn Q s := fun g a w r => by
  obtain ⟨a0, n, cap, bs, _, h1, _⟩ : ∃ a0 n cap bs, a.tmps.getD t undef = .slice a0 n cap ∧ SliceRep e w a0 n cap xs bs ∧ ∀ b ∈ bs, g.I b := r.tmp t _ h
  exact hA h1.max g a w r
theorem AW_aggmax {P : Program} {N : Nat} {K : List Nat} {c : Code} {Kn : St → Prop} {Q : Exit → St → Prop} {s : St} {α : Type} {e : Enc α} {xs : List α} {cs : List Cell} (t i : Nat) (h : lk s.t t = some (.agg cs)) (hi : nthC cs i = some (.sl e xs)) (hA : xs.length ≤ 9223372036854775807 → AW P N K c Kn Q s) : AW P N K c Kn Q s := fun g a w r => by
  obtain ⟨vs, _, h2⟩ : ∃ vs : List Value, a.tmps.getD t undef = .agg vs.toArray ∧ All2 (CellR g s.l w) vs cs := r.tmp t _ h
  obtain ⟨v, _, h4⟩ := h2.get (nthC_get hi)
  obtain ⟨a0, n, cap, bs, _, h1, _⟩ := h4
  exact hA h1.max g a w r
theorem AW_aggsmax {P : Program} {N : Nat} {K : List Nat} {c : Code} {Kn : St → Prop} {Q : Exit → St → Prop} {s : St} {b : ByteArray} {cs : List Cell} (t i : Nat) (h : lk s.t t = some (.agg cs)) (hi : nthC cs i = some (.c (.string b))) (hA : b.size ≤ 9223372036854775807 → AW P N K c Kn Q s) : AW P N K c Kn Q s := fun g a w r => by
  obtain ⟨vs, _, h2⟩ : ∃ vs : List Value, a.tmps.getD t undef = .agg vs.toArray ∧ All2 (CellR g s.l w) vs cs := r.tmp t _ h
  obtain ⟨v, _, h4⟩ := h2.get (nthC_get hi)
  exact hA (by have h3 : b.size ≤ maxLen := h4.2; unfold maxLen at h3; omega) g a w r
/-- A text in a slot is not too long. -/
theorem AW_strmax {P : Program} {N : Nat} {K : List Nat} {c : Code} {Kn : St → Prop} {Q : Exit → St → Prop} {s : St} {b : ByteArray} (t : Nat) (h : lk s.t t = some (.one (.c (.string b)))) (hA : b.size ≤ 9223372036854775807 → AW P N K c Kn Q s) : AW P N K c Kn Q s := fun g a w r => by
  obtain ⟨_, h1⟩ : a.tmps.getD t undef = .string b ∧ wfV (.string b) := r.tmp t _ h
  exact hA (by have h2 : b.size ≤ maxLen := h1; unfold maxLen at h2; omega) g a w r
theorem ba_beq_self (a : ByteArray) : (a == a) = true := by rw [beq_toListBytes]; simp
end Go.Proofs.Ytcgickpnckedcaa

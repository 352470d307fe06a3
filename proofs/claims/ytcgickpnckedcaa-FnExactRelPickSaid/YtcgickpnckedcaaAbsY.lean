/- The abstract walk: calls that lend and leave; rules with the element's size found by the kernel. -/
import Derived.Test.YtcgickpnckedcaaAbsBld
import Derived.Test.YtcgickpnckedcaaAbsNum
namespace Go.Proofs.Ytcgickpnckedcaa
open Go.RowKit
set_option linter.unusedVariables false

def arrOk (P : Program) (T E n : Nat) : Bool := match arrT P T with
  | some (E', n', b) => Nat.beq E' E && Nat.beq n' n && Nat.ble b 100000
  | none => false
theorem arrOk_spec {P : Program} {T E n : Nat} (h : arrOk P T E n = true) : ∃ b, arrT P T = some (E, n, b) ∧ Nat.ble b 100000 = true := by
  unfold arrOk at h
  split at h
  · rename_i E' n' b hT
    simp only [Bool.and_eq_true] at h
    obtain ⟨⟨h1, h2⟩, h3⟩ := h
    have h1 := Nat.eq_of_beq_eq_true h1
    have h2 := Nat.eq_of_beq_eq_true h2
    subst h1; subst h2
    exact ⟨b, hT, h3⟩
  · cases h
section ops
variable {P : Program} {N : Nat} {s : St} {d : Nat} {ty : TypeId} {pos : String} {after : Array Edge} {gd : Option (Nat × Bool)}
theorem y_append {α : Type} {e : Enc α} {f : α → List Cell} [hc : CellsOf e f] {T E : Nat} {x y : Operand} {xs ys : List α} {d1 d2 : Bool} {k j : Nat} (k' : Nat) (hN : Nat.blt d N = true)
    (h : evo s.t x = some (.one (.own k))) (h2 : evo s.t y = some (.one (.own j))) (hl : lkl s.l k = some (.arr E e xs d1)) (hl2 : lkl s.l j = some (.arr E e ys d2)) (hkj : Nat.beq k j = false)
    (hk : lk s.l k' = none) (hi : noId k' s.ids = true) (hT : arrOk P T E e.size = true) (hbnd : xs.length + ys.length ≤ 1000000000) :
    Stp P N ⟨some d, .call { callee := .builtin .append, args := #[x, y], argTypes := #[T, T] }, ty, pos, after, gd⟩ s ⟨(d, .one (.own k')) :: s.t, (k', some (.arr E e (xs ++ ys) (d1 && d2))) :: (gones [k, j] ++ s.l)⟩
      ⟨rdo x (.one (.own k)) ++ rdo y (.one (.own j)), [(k, .arr E e xs d1), (j, .arr E e ys d2)], [(d, .one (.own k'))], (k', some (.arr E e (xs ++ ys) (d1 && d2))) :: gones [k, j], [k']⟩ := by
  obtain ⟨b, h3, h4⟩ := arrOk_spec hT
  exact x_append k' hN h h2 hl hl2 hkj h3 rfl hk hi hbnd h4
theorem y_append_sl {α : Type} {e : Enc α} {f : α → List Cell} [hc : CellsOf e f] {T E : Nat} {x y : Operand} {xs ys : List α} {d1 : Bool} {k : Nat} (k' : Nat) (d2 : Bool) (hd2 : d2 = false ∨ ∀ w cs y b, e.rep w cs y b → b = []) (hN : Nat.blt d N = true)
    (h : evo s.t x = some (.one (.own k))) (h2 : evo s.t y = some (.one (.sl e ys))) (hl : lkl s.l k = some (.arr E e xs d1)) (hk : lk s.l k' = none) (hi : noId k' s.ids = true) (hT : arrOk P T E e.size = true) (hbnd : xs.length + ys.length ≤ 1000000000) :
    Stp P N ⟨some d, .call { callee := .builtin .append, args := #[x, y], argTypes := #[T, T] }, ty, pos, after, gd⟩ s ⟨(d, .one (.own k')) :: s.t, (k', some (.arr E e (xs ++ ys) (d1 && d2))) :: (gones [k] ++ s.l)⟩
      ⟨rdo x (.one (.own k)) ++ rdo y (.one (.sl e ys)), [(k, .arr E e xs d1)], [(d, .one (.own k'))], (k', some (.arr E e (xs ++ ys) (d1 && d2))) :: gones [k], [k']⟩ := by
  obtain ⟨b, h3, h4⟩ := arrOk_spec hT
  exact x_append_sl k' d2 hd2 hN h h2 hl h3 rfl hk hi hbnd h4
theorem y_bslice0 {α : Type} {e : Enc α} {f : α → List Cell} [hc : CellsOf e f] {T E : Nat} (k : Nat) (hN : Nat.blt d N = true) (hk : lk s.l k = none) (hi : noId k s.ids = true) (hT : arrOk P T E e.size = true) :
    Stp P N ⟨some d, .buildSlice T 0 #[], ty, pos, after, gd⟩ s ⟨(d, .one (.own k)) :: s.t, (k, some (.arr (α := α) E e [] true)) :: s.l⟩ ⟨[], [], [(d, .one (.own k))], [(k, some (.arr (α := α) E e [] true))], [k]⟩ := by
  obtain ⟨b, h3, h4⟩ := arrOk_spec hT
  exact x_bslice0 (f := f) k hN h3 hk hi
theorem y_bslice {α : Type} {e : Enc α} {f : α → List Cell} [hc : CellsOf e f] {T E len : Nat} (ops : List Operand) {parts : Array (Nat × Operand)} {Xs : List AVal} (xs : List α) {ds : List Cell} {js : List Nat} {dp : Bool} (k : Nat) (hN : Nat.blt d N = true)
    (hparts : parts = ((ops.zipIdx 0).map fun x => (x.2, x.1)).toArray) (hev : evl s.t ops = some Xs) (hfl : flats Xs = true) (hsol : (Xs.flatMap AVal.cells).all (solid s.l) = true)
    (hlen : ops.length = len) (hsz : Xs.all (fun X => Nat.beq X.cells.length e.size) = true)
    (hmv : mvC s.l (Xs.flatMap AVal.cells) = some (ds, js, dp)) (hfit : FitL ds (xs.flatMap f)) (hnd : noDup js = true) (hxs : xs.length = len) (hpos : Nat.blt 0 len = true) (hsmall : Nat.ble (len * e.size) 16777216 = true)
    (hk : lk s.l k = none) (hi : noId k s.ids = true) (hT : arrOk P T E e.size = true) :
    Stp P N ⟨some d, .buildSlice T len parts, ty, pos, after, gd⟩ s ⟨(d, .one (.own k)) :: s.t, (k, some (.arr E e xs dp)) :: (gones js ++ s.l)⟩ ⟨rdl s.t ops, rlC s.l (Xs.flatMap AVal.cells), [(d, .one (.own k))], (k, some (.arr E e xs dp)) :: gones js, [k]⟩ := by
  obtain ⟨b, h3, h4⟩ := arrOk_spec hT
  exact x_bslice ops xs k hN hparts hev hfl hsol h3 hlen hsz rfl hmv hfit hnd hxs hpos hsmall hk hi
/-! calls -/
def newOk (s : St) (ks : List Nat) : Bool := ks.all fun k => (match lk s.l k with | none => true | some _ => false) && noId k s.ids
theorem newOk_of {s : St} {ks : List Nat} (h : newOk s ks = true) : ∀ k ∈ ks, lk s.l k = none ∧ k ∉ s.ids := fun k hk => by
  have h1 := List.all_eq_true.1 h k hk
  simp only [Bool.and_eq_true] at h1
  refine ⟨?_, noId_of h1.2⟩
  have h2 := h1.1
  split at h2
  · assumption
  · cases h2
/-- A call that lends the blocks L and leaves the blocks L'. -/
theorem x_call {fo : Operand} {f : FuncId} {ks : List Nat} {as : Array Operand} {ats : Array TypeId} {xs ys : List AVal} {L L' : Locs} {res : AVal} (hN : Nat.blt d N = true) (hev : evo s.t fo = some (.one (.clo f ks)))
    (hxs : evl s.t as.toList = some xs) (hac : AC P f ys L res L') (hfl : flats xs = true) (hle : AllV (xs ++ caps ks) ys) (hks : ∀ k ∈ ks, ∃ cs, (k, some (Blk.box cs)) ∈ L) (hLs : okL L = true) (hsc : closedIn (keys L') L'.ids = true) (hsr : closedIn (keys L') res.ids = true)
    (hsub : sub s.l L) (hnew : newOk s (newOf L L') = true) :
    Stp P N ⟨some d, .call { callee := .value fo, args := as, argTypes := ats }, ty, pos, after, gd⟩ s ⟨(d, res) :: s.t, L' ++ (goneL L ++ s.l)⟩ ⟨rdo fo (.one (.clo f ks)) ++ rdl s.t as.toList, rlOf L, [(d, res)], L' ++ goneL L, newOf L L'⟩ :=
  ⟨OpOK.call rfl rfl (blt_lt hN) hev hxs hfl hac hle hks hLs hsc hsr, ⟨fun p hp => by
      rcases List.mem_append.1 hp with hp | hp
      · exact rdo_of hev p hp
      · exact (evl_ok (N := N) hxs).1 p hp, sub_rlOf hsub, newOk_of hnew⟩, by simp [Cert.upd, List.append_assoc]⟩
/-- .. that lends nothing and leaves one array. -/
theorem x_call1 {fo : Operand} {f : FuncId} {as : Array Operand} {ats : Array TypeId} {xs : List AVal} {k : Nat} {b : Option Blk} {res : AVal} (hN : Nat.blt d N = true) (hev : evo s.t fo = some (.one (.clo f [])))
    (hxs : evl s.t as.toList = some xs) (hac : AC P f xs [] res [(k, b)]) (hfl : flats xs = true) (hsc : closedIn [k] (Locs.ids [(k, b)]) = true) (hsr : closedIn [k] res.ids = true) (hnew : newOk s [k] = true) :
    Stp P N ⟨some d, .call { callee := .value fo, args := as, argTypes := ats }, ty, pos, after, gd⟩ s ⟨(d, res) :: s.t, (k, b) :: s.l⟩ ⟨rdo fo (.one (.clo f [])) ++ rdl s.t as.toList, [], [(d, res)], [(k, b)], [k]⟩ :=
  x_call (L := []) (L' := [(k, b)]) hN hev hxs hac hfl (by rw [show caps [] = [] from rfl, List.append_nil]; exact AllV.rf) (fun k hk => by cases hk) rfl hsc hsr trivial hnew
end ops
theorem ble_eq {b b' : Blk} (h : b = b') : BLe b b' := .inl h
theorem BLe.arr {α : Type} {T : TypeId} {e : Enc α} {xs ys : List α} {d : Bool} (h : xs = ys) : BLe (.arr T e xs d) (.arr T e ys d) := by subst h; exact BLe.rf
theorem BLe.arr' {α : Type} {T : TypeId} {e : Enc α} {xs ys : List α} {d : Bool} {b : Blk} (h : xs = ys) (hb : b = .arr T e ys d) : BLe (.arr T e xs d) b := by subst h; subst hb; exact BLe.rf
/-- The array that is left, under another number. -/
theorem AC.at {P : Program} {f : FuncId} {args : List AVal} {res : AVal} {b : Blk} (h : AC P f args [] (res.ren fun _ => 0) [(0, some (b.ren fun _ => 0))]) (k : Nat) : AC P f args [] res [(k, some b)] :=
  ⟨h.fn, fun g w cargs m ha => (h.run g w cargs m ha).mono (by
    rintro e w' ⟨v, g1, rfl, m1, hv, hs⟩
    have hL : LeL (fun _ => 0) [(0, some (b.ren fun _ => 0))] [(k, some b)] := ⟨⟨_, rfl, BLe.rf⟩, trivial⟩
    have hi : injL (fun _ => 0) (keys [(k, some b)]) = true := by simp [injL, keys]
    exact ⟨v, g1.ren fun _ => 0, rfl, m1.unren hL hi, VR.unren hL hv, hs.trans m m1 (Step.unren hL trivial)⟩)⟩
end Go.Proofs.Ytcgickpnckedcaa

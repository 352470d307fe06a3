/- From contracts that leave own memory to calls in a world: what is handed back is fresh. -/
import Derived.Test.YtcgickpnckedcaaAbsNil
import Derived.Test.YtcgickpnckedcaaAbsLaw
namespace Go.Proofs.Ytcgickpnckedcaa
open Go.RowKit
set_option linter.unusedVariables false

theorem Step.below' {K : List Nat} {g g' : Gh} {l' : Locs} {w w' : World} (h : Step K g [] w g' l' w') : Below w.heap.size w w' :=
  ⟨h.os, h.tape, h.output, h.size, fun b hb => h.keep b hb fun k blk hk => (by simp [lkl, lk] at hk)⟩
theorem fresh_of {α : Type} {E : Enc α} {F : α → List Cell} [hc : CellsOf E F] {K : List Nat} {g g' : Gh} {l' : Locs} {w w' : World} (m : MemR g' l' w') (hs : Step K g [] w g' l' w') {x : α} {vs : List Value} {cs ds : List Cell} {js : List Nat}
    (hA : All2 (CellR g' l' w') vs cs) (hmv : mvC l' cs = some (ds, js, true)) (hjs : noDup js = true) (hfit : FitL ds (F x)) : ∃ bs, E.rep w' vs x bs ∧ Fresh w.heap.size w' bs := by
  obtain ⟨bs, f1, f2, f3⟩ := mvC_ok m hA hmv (noDup_of hjs)
  obtain ⟨n1, n2⟩ := f3 rfl
  refine ⟨bs, hc.iff.2 (f1.fit hfit), n1, fun b hb => ?_⟩
  obtain ⟨j, _, hv⟩ := n2 b hb
  refine ⟨?_, hv.cells m⟩
  rcases hs.own b hv.own with ⟨k, blk, hk, _⟩ | h
  · simp [lkl, lk] at hk
  · exact h
theorem AC.retTup {P : Program} {f : FuncId} {args : List AVal} {L' : Locs} {α : Type} {E : Enc α} {F : α → List Cell} [hc : CellsOf E F] {x : α} {cs ds : List Cell} {js : List Nat} {v : Value} (h : AC P f args [] (.tup [.agg cs, .one (.c v)]) L')
    (hmv : mvC L' cs = some (ds, js, true)) (hjs : noDup js = true) (hfit : FitL ds (F x)) (w : World) (cargs : Array Value) (ha : All2 (VR1 (allI w) [] w) cargs.toList args) :
    Calls P f cargs w fun e w' => ∃ vs bs, e = .returned (.tuple #[.agg vs, v]) ∧ E.rep w' vs.toList x bs ∧ Fresh w.heap.size w' bs ∧ Below w.heap.size w w' :=
  (h.run (allI w) w cargs (allI_mem w) ha).mono fun e w' ⟨u, g', he, m, hv, hs⟩ => by
    obtain ⟨us, e1, e2⟩ := hv
    match us, e2 with
    | [a, b], ⟨⟨vs, h1, h2⟩, h3, _⟩ =>
      obtain ⟨bs, r1, r2⟩ := fresh_of (E := E) (x := x) m hs h2 hmv hjs hfit
      have h4 : b = v := h3.1
      subst h4; subst h1; subst e1
      exact ⟨vs.toArray, bs, he, by simpa using r1, r2, hs.below'⟩
theorem AC.retAgg {P : Program} {f : FuncId} {args : List AVal} {L' : Locs} {α : Type} {E : Enc α} {F : α → List Cell} [hc : CellsOf E F] {x : α} {cs ds : List Cell} {js : List Nat} (h : AC P f args [] (.agg cs) L')
    (hmv : mvC L' cs = some (ds, js, true)) (hjs : noDup js = true) (hfit : FitL ds (F x)) (w : World) (cargs : Array Value) (ha : All2 (VR1 (allI w) [] w) cargs.toList args) :
    Calls P f cargs w (RetAgg E w x) :=
  (h.run (allI w) w cargs (allI_mem w) ha).mono fun e w' ⟨u, g', he, m, hv, hs⟩ => by
    obtain ⟨vs, h1, h2⟩ := hv
    obtain ⟨bs, r1, r2⟩ := fresh_of (E := E) (x := x) m hs h2 hmv hjs hfit
    subst h1
    exact ⟨vs.toArray, bs, he, by simpa using r1, r2, hs.below'⟩
end Go.Proofs.Ytcgickpnckedcaa

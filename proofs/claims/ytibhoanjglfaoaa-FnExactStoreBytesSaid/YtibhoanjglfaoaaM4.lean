/- Lemmas of the walks, part 4. -/
import Derived.Test.YtibhoanjglfaoaaM3
import Derived.Lib.AppendStr
import Derived.Lib.ConvBytes
/- The abstract walk of a law: phases, between which own data is written anew (marks). -/
namespace Go.Proofs.Ytibhoanjglfaoaa
open Go.RowKit
set_option linter.unusedVariables false

/-- A phase: what stood at its start (blocks below B) is read alone; what is one's own was made since. -/
structure Ph (B : Nat) (g : Gh) (s : St) (w : World) : Prop where
  le : B ≤ w.heap.size
  old : ∀ b, b < B → g.I b
  own : ∀ b, OwnB g s.l b → B ≤ b
theorem Ph.step {B : Nat} {g g' : Gh} {s s' : St} {w w' : World} (p : Ph B g s w) (hs : Step [] g s.l w g' s'.l w') : Ph B g' s' w' ∧ Below B w w' :=
  ⟨⟨Nat.le_trans p.le hs.size, fun b hb => hs.imm b (p.old b hb), fun b hb => (hs.own b hb).elim (p.own b) fun h => Nat.le_trans p.le h⟩,
   hs.os, hs.tape, hs.output, hs.size, fun b hb => hs.keep b (Nat.lt_of_lt_of_le hb p.le) fun k blk hk hl e => by
    have := p.own b (e ▸ OwnB.of_live hk hl)
    omega⟩
def EndsM (N B : Nat) (w : World) (R : Exit → St → Prop) : Exit → Act → World → Prop := fun e a' w' => ∃ g' s', Rep N g' s' a' w' ∧ Ph B g' s' w' ∧ Below B w w' ∧ R e s'
theorem EndsM.back {N B : Nat} {w w1 : World} {R : Exit → St → Prop} {e : Exit} {a : Act} {w2 : World} (hb : Below B w w1) (h : EndsM N B w1 R e a w2) : EndsM N B w R e a w2 := by
  obtain ⟨g', s', r, p, b, hR⟩ := h
  exact ⟨g', s', r, p, hb.trans b, hR⟩
theorem EndsM.down {N B B' : Nat} {w : World} {R : Exit → St → Prop} {e : Exit} {a : Act} {w2 : World} (hB : B ≤ B') (h : EndsM N B' w R e a w2) : EndsM N B w R e a w2 := by
  obtain ⟨g', s', r, p, b, hR⟩ := h
  exact ⟨g', s', r, ⟨Nat.le_trans hB p.le, fun b hb => p.old b (Nat.lt_of_lt_of_le hb hB), fun b hb => Nat.le_trans hB (p.own b hb)⟩, b.mono hB, hR⟩
def AM (P : Program) (N B : Nat) (c : Code) (Kn : St → Prop) (Q : Exit → St → Prop) (s : St) : Prop :=
  ∀ (g : Gh) (a : Act) (w : World), Rep N g s a w → Ph B g s w → c.wp P (EndsM N B w (NormR Kn Q)) a w
section rules
variable {P : Program} {N B : Nat} {Kn : St → Prop} {Q : Exit → St → Prop} {s : St}
theorem AM_of {c : Code} (h : AW P N [] c Kn Q s) : AM P N B c Kn Q s := fun g a w r p =>
  Go.wp_mono (h g a w r) fun e a1 w1 ⟨g1, s1, r1, hs, hR⟩ => ⟨g1, s1, r1, (p.step hs).1, (p.step hs).2, hR⟩
theorem AM_region {id : Nat} {l : List Oper} (h : AL P N false l.toArray Kn l s []) : AM P N B (.region id l.toArray false) Kn Q s := AM_of (AW_region h)
theorem AM_draw {id : Nat} {l : List Oper} (hm : P.follows .mixedOrders = true) (h : AL P N true l.toArray Kn l s []) : AM P N B (.region id l.toArray true) Kn Q s := AM_of (AW_draw hm h)
theorem AM_skip (h : Kn s) : AM P N B .skip Kn Q s := AM_of (AW_skip h)
theorem AM_ret (h : Q .ret s) : AM P N B .ret Kn Q s := AM_of (AW_ret h)
theorem AM_seq {x y : Code} (h : AM P N B x (AM P N B y Kn Q) Q s) : AM P N B (.seq x y) Kn Q s := fun g a w r p =>
  wp_seq (Go.wp_mono (h g a w r p) fun e a1 w1 h1 => by
    obtain ⟨g1, s1, r1, p1, b1, hR⟩ := h1
    cases e with
    | normal => exact Go.wp_mono (hR g1 a1 w1 r1 p1) fun e a2 w2 h2 => h2.back b1
    | exit id => exact ⟨g1, s1, r1, p1, b1, hR⟩
    | goto l => exact ⟨g1, s1, r1, p1, b1, hR⟩
    | ret => exact ⟨g1, s1, r1, p1, b1, hR⟩
    | panic ch => exact ⟨g1, s1, r1, p1, b1, hR⟩
    | outgrown => exact ⟨g1, s1, r1, p1, b1, hR⟩)
theorem AM_condT {c : Operand} {x y : Code} (hc : evo s.t c = some (.one (.c (.bool true)))) (h : AM P N B x Kn Q s) : AM P N B (.cond c x y) Kn Q s := fun g a w r p => by
  obtain ⟨hv, _⟩ : a.eval c = .bool true ∧ wfV (.bool true) := eval_ok r (evs_of hc) (rdo_of hc)
  exact wp_cond_split hv (fun _ => h g a w r p) (fun h => by cases h)
theorem AM_condF {c : Operand} {x y : Code} (hc : evo s.t c = some (.one (.c (.bool false)))) (h : AM P N B y Kn Q s) : AM P N B (.cond c x y) Kn Q s := fun g a w r p => by
  obtain ⟨hv, _⟩ : a.eval c = .bool false ∧ wfV (.bool false) := eval_ok r (evs_of hc) (rdo_of hc)
  exact wp_cond_split hv (fun h => by cases h) (fun _ => h g a w r p)
end rules

/-! ### A new phase -/
/-- What a slot holds, where all that stands is read alone from now on. -/
inductive Rise (l : Locs) (B B' : Nat) : AVal → AVal → Prop
  | c {v : Value} : Rise l B B' (.one (.c v)) (.one (.c v))
  | box {k : Nat} {cs ds : List Cell} {js : List Nat} {d : Bool} {α : Type} {e : Enc α} {f : α → List Cell} [hc : CellsOf e f] {x : α} (hb : lkl l k = some (.box cs)) (hm : mvC l cs = some (ds, js, d)) (hj : noDup js = true) (hf : FitL ds (f x)) : Rise l B B' (.one (.ptr k 0)) (.one (.epo B' e x 0))
  | own {k : Nat} {α : Type} {T : TypeId} {e : Enc α} {xs : List α} {d : Bool} (hb : lkl l k = some (.arr T e xs d)) : Rise l B B' (.one (.own k)) (.one (.slo B' e xs))
  | epo {α : Type} {e : Enc α} {x : α} {o : Nat} : Rise l B B' (.one (.epo B e x o)) (.one (.epo B' e x o))
  | slo {α : Type} {e : Enc α} {xs : List α} : Rise l B B' (.one (.slo B e xs)) (.one (.slo B' e xs))
  | sl {α : Type} {e : Enc α} {xs : List α} : Rise l B B' (.one (.sl e xs)) (.one (.slo B' e xs))
  | agg {cs ds : List Cell} {js : List Nat} {d : Bool} {α : Type} {e : Enc α} {f : α → List Cell} [hc : CellsOf e f] {x : α} (hm : mvC l cs = some (ds, js, d)) (hj : noDup js = true) (hf : FitL ds (f x)) (hs : (f x).all Cell.dat = true) : Rise l B B' (.agg cs) (.agg (f x))
def RiseT (l : Locs) (B B' : Nat) (t : Tmps) : Tmps → Prop
  | [] => True
  | (k, x) :: r => (∃ y, lk t k = some y ∧ Rise l B B' y x) ∧ RiseT l B B' t r
theorem RiseT.get {l : Locs} {B B' : Nat} {t : Tmps} : ∀ {T : Tmps} {k : Nat} {x : AVal}, RiseT l B B' t T → lk T k = some x → ∃ y, lk t k = some y ∧ Rise l B B' y x
  | [], k, x, _, h => by simp [lk] at h
  | (j, z) :: r, k, x, hT, h => by
    by_cases e : j = k
    · subst e; rw [lk_cons_self] at h; cases h; exact hT.1
    · rw [lk_cons_ne e] at h; exact RiseT.get hT.2 h
theorem moved_lt {g : Gh} {l : Locs} {w : World} (m : MemR g l w) {js : List Nat} {b : Nat} (h : g.I b ∨ liveA g js b) (hj : ∀ j ∈ js, ∃ (α : Type) (T : TypeId) (e : Enc α) (xs : List α) (d : Bool), lkl l j = some (.arr T e xs d)) : b < w.heap.size := by
  rcases h with h | ⟨j, h1, h2, rfl⟩
  · exact m.ilt b h
  · obtain ⟨α, T, e, xs, d, h3⟩ := hj j h1
    exact m.lt h3 h2
theorem mvC_js {l : Locs} : ∀ {cs ds : List Cell} {js : List Nat} {d : Bool}, mvC l cs = some (ds, js, d) → ∀ j ∈ js, ∃ (α : Type) (T : TypeId) (e : Enc α) (xs : List α) (d : Bool), lkl l j = some (.arr T e xs d)
  | [], ds, js, d, h => by
    simp only [mvC, Option.some.injEq, Prod.mk.injEq] at h
    obtain ⟨rfl, rfl, rfl⟩ := h
    intro j hj; cases hj
  | c :: cs, ds, js, d, h => by
    simp only [mvC] at h
    split at h
    · cases h
    · rename_i ds1 js1 d1 h1
      have ih := mvC_js h1
      cases c with
      | c v => simp only [Option.some.injEq, Prod.mk.injEq] at h; obtain ⟨rfl, rfl, rfl⟩ := h; exact ih
      | sl e xs => simp only [Option.some.injEq, Prod.mk.injEq] at h; obtain ⟨rfl, rfl, rfl⟩ := h; exact ih
      | own j =>
        simp only at h
        split at h
        · rename_i T e xs q hq
          simp only [Option.some.injEq, Prod.mk.injEq] at h
          obtain ⟨rfl, rfl, rfl⟩ := h
          intro i hi
          rcases List.mem_cons.1 hi with rfl | hi
          · exact ⟨_, T, e, xs, q, hq⟩
          · exact ih i hi
        · cases h
      | _ => cases h
theorem Rise.ok {g : Gh} {l : Locs} {w : World} {B : Nat} (m : MemR g l w) {v : Value} {x y : AVal} (h : Rise l B w.heap.size x y) (hv : VR g l w v x) : VR (allI w) [] w v y := by
  cases h with
  | c => exact hv
  | @box k cs ds js d α e f hc x hb hm hj hf =>
    have he : v = .pointer (some ⟨g.ρ k, 0, none⟩) := hv cs hb
    obtain ⟨vs, t, h1, h2, h3⟩ := m.box k cs hb
    obtain ⟨bs, f1, f2, _⟩ := mvC_ok m h2 hm (noDup_of hj)
    have hr : e.rep w vs.toList x bs := hc.iff.2 (f1.fit hf)
    exact ⟨g.ρ k, 0, vs.toList, bs, he, ⟨(Array.getElem?_eq_some_iff.1 h1).1, (Array.getElem?_eq_some_iff.1 h1).1⟩, hr, fun c hcb => ⟨e.lt hr c hcb, e.lt hr c hcb⟩, fun j u hu => by rw [cell_of_heap h1, Nat.zero_add]; simpa using hu⟩
  | @own k α T e xs d hb =>
    obtain ⟨a, n, cap, bs, h1, h2, h3, _⟩ := (m.arr k α T e xs d hb).slice
    have he : v = g.hd k := hv α T e xs d hb
    exact ⟨a, n, cap, bs, he.trans h1, h2, fun b hbb => ⟨h2.lt b hbb, h2.lt b hbb⟩⟩
  | epo =>
    obtain ⟨gb, o, cs, b, h1, h2, h3, h4, h5⟩ := hv
    have hg := m.ilt gb h2.1
    exact ⟨gb, o, cs, b, h1, ⟨hg, hg⟩, h3, fun c hc => ⟨m.ilt c (h4 c hc).1, m.ilt c (h4 c hc).1⟩, h5⟩
  | slo =>
    obtain ⟨a, n, cap, bs, h1, h2, h3⟩ := hv
    exact ⟨a, n, cap, bs, h1, h2, fun b hb => ⟨h2.lt b hb, h2.lt b hb⟩⟩
  | sl =>
    obtain ⟨a, n, cap, bs, h1, h2, h3⟩ := hv
    exact ⟨a, n, cap, bs, h1, h2, fun b hb => ⟨h2.lt b hb, h2.lt b hb⟩⟩
  | @agg cs ds js d α e f hc x hm hj hf hs =>
    obtain ⟨vs, h1, h2⟩ := hv
    obtain ⟨bs, f1, f2, _⟩ := mvC_ok m h2 hm (noDup_of hj)
    have hr : e.rep w vs x bs := hc.iff.2 (f1.fit hf)
    exact ⟨vs, h1, (f1.fit hf).all2 fun i hi => e.lt hr i hi⟩
/-- From here on all that stands is read alone. -/
theorem AM_raise {P : Program} {N B : Nat} {c : Code} {Kn : St → Prop} {Q : Exit → St → Prop} {s : St} (T : Nat → Tmps) (hT : ∀ B', RiseT s.l B B' s.t (T B')) (h : ∀ B', AM P N B' c Kn Q ⟨T B', []⟩) : AM P N B c Kn Q s := fun g a w r p => by
  have r2 : Rep N (allI w) ⟨T w.heap.size, []⟩ a w := ⟨r.size, r.defers, fun k x hk => by
    obtain ⟨y, h1, h2⟩ := (hT w.heap.size).get hk
    exact h2.ok r.mem (r.tmp k y h1), allI_mem w⟩
  exact Go.wp_mono (h w.heap.size (allI w) a w r2 ⟨Nat.le_refl _, fun b hb => hb, fun b ⟨k, blk, hk, _⟩ => by simp [lkl, lk] at hk⟩) fun e a1 w1 h1 => h1.down p.le

/-! ### What a mark leaves standing -/
def HardC (B : Nat) (js : List Nat) : Cell → Prop
  | .c _ => True
  | .any => True
  | .ptr _ _ => True
  | .own j => noId j js = true
  | .slo B' _ _ => B' = B
  | .epo B' _ _ _ => B' = B
  | _ => False
def hardAll (B : Nat) (js : List Nat) : List Cell → Prop
  | [] => True
  | c :: cs => HardC B js c ∧ hardAll B js cs
theorem hardAll.get {B : Nat} {js : List Nat} : ∀ {cs : List Cell}, hardAll B js cs → ∀ x ∈ cs, HardC B js x
  | [], _, x, h => by cases h
  | c :: cs, h, x, hx => by
    rcases List.mem_cons.1 hx with rfl | hx
    · exact h.1
    · exact hardAll.get h.2 x hx
def HardV (B : Nat) (js : List Nat) : AVal → Prop
  | .one x => HardC B js x
  | .agg xs => hardAll B js xs
  | .tup _ => False
def HardB (B : Nat) (js : List Nat) (k : Nat) : Blk → Prop
  | .box cs => hardAll B js cs
  | .arr _ _ _ d => d = true ∧ noId k js = true
def SubT (B : Nat) (js : List Nat) (t : Tmps) : Tmps → Prop
  | [] => True
  | (k, x) :: r => (lk t k = some x ∧ HardV B js x) ∧ SubT B js t r
def SubL (B : Nat) (js : List Nat) (l : Locs) : Locs → Prop
  | [] => True
  | (k, some b) :: r => (lkl l k = some b ∧ HardB B js k b) ∧ SubL B js l r
  | (_, none) :: r => SubL B js l r
theorem SubT.get {B : Nat} {js : List Nat} {t : Tmps} : ∀ {T : Tmps} {k : Nat} {x : AVal}, SubT B js t T → lk T k = some x → lk t k = some x ∧ HardV B js x
  | [], k, x, _, h => by simp [lk] at h
  | (j, z) :: r, k, x, hT, h => by
    by_cases e : j = k
    · subst e; rw [lk_cons_self] at h; cases h; exact hT.1
    · rw [lk_cons_ne e] at h; exact SubT.get hT.2 h
theorem SubL.get {B : Nat} {js : List Nat} {l : Locs} : ∀ {L : Locs} {k : Nat} {b : Blk}, SubL B js l L → lkl L k = some b → lkl l k = some b ∧ HardB B js k b
  | [], k, b, _, h => by simp [lkl, lk] at h
  | (j, z) :: r, k, b, hL, h => by
    by_cases e : j = k
    · subst e; rw [lkl_cons_self] at h; subst h; exact hL.1
    · cases z with
      | none => rw [lkl_cons_ne e] at h; exact SubL.get (L := r) hL h
      | some z => rw [lkl_cons_ne e] at h; exact SubL.get hL.2 h
section back
variable {N B : Nat} {g : Gh} {s : St} {a : Act} {w w' : World} {js : List Nat} {bs : List Nat} {L : Locs}
/-- The names behind a mark. -/
def Gh.after (g : Gh) (B : Nat) (L : Locs) : Gh := { g with I := fun b => b < B ∨ ∃ (j : Nat) (α : Type) (T : TypeId) (e : Enc α) (xs : List α), lkl L j = some (.arr T e xs true) ∧ b ∈ g.F j }
theorem hard_cell (p : Ph B g s w) (hb : ∀ b ∈ bs, ∃ j ∈ js, Via g s.l j b) (o : Only bs w w') (hL : SubL B js s.l L) {v : Value} {x : Cell} (hx : HardC B js x) (h : CellR g s.l w v x) : CellR (g.after B L) L w' v x := by
  have lo : ∀ b, b < B → b ∉ bs := fun b h1 h2 => by
    obtain ⟨j, _, hv⟩ := hb b h2
    have := p.own b hv.own
    omega
  have kp : ∀ b, b < B → w'.heap[b]? = w.heap[b]? := fun b h1 => o.keep b (Nat.lt_of_lt_of_le h1 p.le) (lo b h1)
  cases x with
  | c u => exact h
  | any => trivial
  | own j => exact fun α T e xs d hk => h α T e xs d (hL.get hk).1
  | ptr k off => exact fun cs hk => h cs (hL.get hk).1
  | slo B' e xs =>
    obtain rfl : B' = B := hx
    obtain ⟨a, n, cap, b1, h1, h2, h3⟩ := h
    exact ⟨a, n, cap, b1, h1, h2.keep (fun b hbb => kp b (h3 b hbb).2) o.size, fun b hbb => ⟨.inl (h3 b hbb).2, (h3 b hbb).2⟩⟩
  | epo B' e z off =>
    obtain rfl : B' = B := hx
    obtain ⟨gb, of, cs, b1, h1, h2, h3, h4, h5⟩ := h
    exact ⟨gb, of, cs, b1, h1, ⟨.inl h2.2, h2.2⟩, e.keep h3 (fun c hc => kp c (h4 c hc).2) o.size, fun c hc => ⟨.inl (h4 c hc).2, (h4 c hc).2⟩, fun j u hu => (World.cell?_of_block (w := w) (kp gb h2.2)).trans (h5 j u hu)⟩
  | _ => exact hx.elim
theorem hard_val (p : Ph B g s w) (hb : ∀ b ∈ bs, ∃ j ∈ js, Via g s.l j b) (o : Only bs w w') (hL : SubL B js s.l L) {v : Value} {x : AVal} (hx : HardV B js x) (h : VR g s.l w v x) : VR (g.after B L) L w' v x := by
  cases x with
  | one x => exact hard_cell p hb o hL hx h
  | agg xs =>
    obtain ⟨vs, h1, h2⟩ := h
    exact ⟨vs, h1, h2.mono fun a b hm hr => hard_cell p hb o hL (hardAll.get hx b hm) hr⟩
  | tup xs => exact hx.elim
theorem after_rep (r : Rep N g s a w) (p : Ph B g s w) (hb : ∀ b ∈ bs, ∃ j ∈ js, Via g s.l j b) (o : Only bs w w') {T : Tmps} (hT : SubT B js s.t T) (hL : SubL B js s.l L) :
    Rep N (g.after B L) ⟨T, L⟩ a w' ∧ Ph B (g.after B L) ⟨T, L⟩ w' ∧ Below B w w' := by
  have m := r.mem
  have lo : ∀ b ∈ bs, B ≤ b := fun b h2 => by
    obtain ⟨j, _, hv⟩ := hb b h2
    exact p.own b hv.own
  have out : ∀ {k blk}, lkl L k = some blk → liv g k blk → g.ρ k ∉ bs := fun {k blk} hk hl hm => by
    obtain ⟨hk', hh⟩ := hL.get hk
    obtain ⟨j, hj, α, T, e, xs, h1, h2⟩ := hb _ hm
    have hne : k ≠ j := fun e => by
      subst e
      rw [hk'] at h1; cases h1
      exact noId_of hh.2 hj
    rcases h2 with ⟨h3, h4⟩ | h3
    · exact m.dis k j _ _ hne hk' h1 hl h3 h4
    · exact m.notI hk' hl ((m.fr j α T e xs h1).2 _ h3).1
  have outF : ∀ {k : Nat} {α : Type} {T : TypeId} {e : Enc α} {xs : List α}, lkl L k = some (.arr T e xs true) → ∀ b ∈ g.F k, b ∉ bs := fun {k α T e xs} hk b hbF hm => by
    obtain ⟨hk', hh⟩ := hL.get hk
    obtain ⟨j, hj, hv⟩ := hb _ hm
    have : k = j := Via.disj m ⟨α, T, e, xs, hk', .inr hbF⟩ hv
    subst this
    exact noId_of hh.2 hj
  have own : ∀ {b}, OwnB (g.after B L) L b → OwnB g s.l b := fun {b} ⟨k, blk, hk, h⟩ => ⟨k, blk, (hL.get hk).1, h⟩
  have nI : ∀ {k blk}, lkl L k = some blk → liv g k blk → ¬ (g.after B L).I (g.ρ k) := fun {k blk} hk hl hI => by
    rcases hI with h1 | ⟨j, α, T, e, xs, h1, h2⟩
    · have := p.own _ (OwnB.of_live (hL.get hk).1 hl); omega
    · exact m.notI (hL.get hk).1 hl ((m.fr j α T e xs (hL.get h1).1).2 _ h2).1
  have hp : ∀ {k blk}, lkl L k = some blk → liv g k blk → w'.heap[g.ρ k]? = w.heap[g.ρ k]? := fun {k blk} hk hl => o.keep _ (m.lt (hL.get hk).1 hl) (out hk hl)
  have hpF : ∀ {k : Nat} {α : Type} {T : TypeId} {e : Enc α} {xs : List α}, lkl L k = some (.arr T e xs true) → ∀ b ∈ g.F k, w'.heap[b]? = w.heap[b]? := fun {k α T e xs} hk b hbF => o.keep b (m.ilt b ((m.fr k α T e xs (hL.get hk).1).2 b hbF).1) (outF hk b hbF)
  refine ⟨⟨r.size, r.defers, fun k x hk => ?_, ⟨fun b hI => ?_, fun k cs hk => ?_, fun k α T e xs d hk => ?_, fun j k b b' hjk hj hk lj lk => m.dis j k b b' hjk (hL.get hj).1 (hL.get hk).1 lj lk, fun k α T e xs hk => ?_, fun j k α β T U e f xs ys hjk hj hk => m.fd j k α β T U e f xs ys hjk (hL.get hj).1 (hL.get hk).1⟩⟩,
    ⟨Nat.le_trans p.le o.size, fun b hb => .inl hb, fun b hb => p.own b (own hb)⟩, o.os, o.tape, o.output, o.size, fun b h1 => o.keep b (Nat.lt_of_lt_of_le h1 p.le) fun h2 => by have := lo b h2; omega⟩
  · obtain ⟨h1, h2⟩ := hT.get hk
    exact hard_val p hb o hL h2 (r.tmp k x h1)
  · refine Nat.lt_of_lt_of_le ?_ o.size
    rcases hI with h1 | ⟨j, α, T, e, xs, h1, h2⟩
    · exact Nat.lt_of_lt_of_le h1 p.le
    · exact m.ilt b ((m.fr j α T e xs (hL.get h1).1).2 b h2).1
  · obtain ⟨h1, h2⟩ := hL.get hk
    obtain ⟨vs, t, h3, h4, h5⟩ := m.box k cs h1
    exact ⟨vs, t, (hp hk trivial).trans h3, h4.mono fun a x hx hr => hard_cell p hb o hL (hardAll.get h2 x hx) hr, nI hk trivial⟩
  · obtain ⟨h1, h2, h3⟩ := hL.get hk
    subst h2
    rcases m.arr k α T e xs true h1 with h4 | ⟨cap, vs, bss, a1, a2, a3, a4, a5, a6, a7, a8, a9⟩
    · exact .inl h4
    · have hl : liv g k (.arr T e xs true) := by show g.hd k ≠ _; rw [a1]; intro e; cases e
      refine .inr ⟨cap, vs, bss, a1, a2, a3, (hp hk hl).trans a4, a5, a6.keep (hp hk hl) (fun b hb => hpF hk b (by rw [a9 rfl]; exact hb)) o.size, fun b hb => .inr ⟨k, α, T, e, xs, hk, by rw [a9 rfl]; exact hb⟩, nI hk hl, a9⟩
  · obtain ⟨h1, h2, h3⟩ := hL.get hk
    obtain ⟨n1, n2⟩ := m.fr k α T e xs h1
    exact ⟨n1, fun b hb => ⟨.inr ⟨k, α, T, e, xs, hk, hb⟩, by
      obtain ⟨_, c, t, h4⟩ := n2 b hb
      exact ⟨c, t, (hpF hk b hb).trans h4⟩⟩⟩
end back

/-! ### Regions in which a mark is called -/
def LM (P : Program) (N B : Nat) (ops : Array Oper) (Kn : St → Prop) (l : List Oper) (s : St) : Prop :=
  ∀ (Q : Exit → St → Prop) (Z : Exit → Act → World → Prop) (g : Gh) (a : Act) (w : World), Rep N g s a w → Ph B g s w → (∀ e a' w', EndsM N B w (NormR Kn Q) e a' w' → Z e a' w') → wpList P ops Z l a w
section lm
variable {P : Program} {N B : Nat} {ops : Array Oper} {Kn : St → Prop} {s : St}
theorem AM_regionM {id : Nat} {l : List Oper} {Q : Exit → St → Prop} (h : LM P N B l.toArray Kn l s) : AM P N B (.region id l.toArray false) Kn Q s := fun g a w r p => wp_region_lit (h Q _ g a w r p fun _ _ _ h => h)
theorem LM_nil (h : Kn s) : LM P N B ops Kn [] s := fun Q Z g a w r p hz => hz _ _ _ ⟨g, s, r, p, Below.refl _ _, h⟩
theorem LM_p {dst : Option Nat} {op : Op} {ty : TypeId} {pos : String} {after : Array Edge} {c : Cert} {r : List Oper} {s' : St} (h : Stp P N ⟨dst, op, ty, pos, after, none⟩ s s' c) (next : LM P N B ops Kn r s') : LM P N B ops Kn (⟨dst, op, ty, pos, after, none⟩ :: r) s := fun Q Z g a w R p hz => by
  obtain ⟨h1, h2, h3⟩ := h
  have h4 := h1 [] g s a w h2 R
  rw [h3] at h4
  unfold wpList
  rw [if_pos (by simp [Region.wanted])]
  refine .inl (Oper.wp_weak (fun a' w' ⟨g', r', hs'⟩ => ?_) h4)
  obtain ⟨p2, b2⟩ := p.step hs'
  exact next Q Z g' a' w' r' p2 fun e a2 w2 h5 => hz e a2 w2 (h5.back b2)
/-- A function that writes a datum anew. -/
def MarkA (P : Program) (f : FuncId) {α : Type} (e : Enc α) (x : α) (k r : Int) (x' : α) : Prop :=
  ∀ (w : World) (cs : List Value) (bs : List Nat), e.rep w cs x bs → Fresh 0 w bs → Calls P f #[.agg cs.toArray, .int .i64 k] w fun e' w' => e' = .returned (.int .i64 r) ∧ e.rep w' cs x' bs ∧ Only bs w w'
def MarkO (P : Program) (f : FuncId) {α : Type} (e : Enc α) (x : List α) (k r : Int) (x' : List α) : Prop :=
  ∀ (w : World) (a : Option Addr) (n cap : Nat) (bs : List Nat), SliceRep e w a n cap x bs → Fresh 0 w bs → Calls P f #[.slice a n cap, .int .i64 k] w fun e' w' => e' = .returned (.int .i64 r) ∧ SliceRep e w' a n cap x' bs ∧ Only bs w w'
theorem via_fresh {g : Gh} {l : Locs} {w : World} (m : MemR g l w) {js bs : List Nat} (h : bs.Nodup ∧ ∀ b ∈ bs, ∃ j ∈ js, Via g l j b) : Fresh 0 w bs := ⟨h.1, fun b hb => by
  obtain ⟨j, _, hv⟩ := h.2 b hb
  exact ⟨Nat.zero_le _, hv.cells m⟩⟩
section mark
variable {d : Nat} {fo x y : Operand} {f : FuncId} {ats : Array TypeId} {ty : TypeId} {pos : String} {after : Array Edge} {r : List Oper} {k r' : Int}
/-- The mark of a struct, of which nothing is asked behind. -/
theorem LM_markA {cs ds : List Cell} {js : List Nat} {α : Type} {e : Enc α} {F : α → List Cell} [hc : CellsOf e F] {z z' : α} (T : Tmps) (L : Locs) (hN : Nat.blt d N = true) (hev : evo s.t fo = some (.one (.clo f []))) (hx : evo s.t x = some (.agg cs)) (hy : evo s.t y = some (.one (.c (.int .i64 k))))
    (hf : Callable P f) (hM : MarkA P f e z k r' z') (hm : mvC s.l cs = some (ds, js, true)) (hj : noDup js = true) (hfit : FitL ds (F z)) (hw : wfV (.int .i64 r')) (hT : SubT B js s.t T) (hL : SubL B js s.l L)
    (next : LM P N B ops Kn r ⟨(d, .one (.c (.int .i64 r'))) :: T, L⟩) : LM P N B ops Kn (⟨some d, .call { callee := .value fo, args := #[x, y], argTypes := ats }, ty, pos, after, none⟩ :: r) s := fun Q Z g a w R p hz => by
  have hfe : a.eval fo = .func (.func f) #[] #[] := (eval_ok R (evs_of hev) (rdo_of hev) : CellR g s.l w (a.eval fo) (.clo f [])) (fun k hk => by cases hk)
  obtain ⟨vs, h1, h2⟩ : ∃ vs : List Value, a.eval x = .agg vs.toArray ∧ All2 (CellR g s.l w) vs cs := eval_ok R (evs_of hx) (rdo_of hx)
  obtain ⟨h3, _⟩ : a.eval y = .int .i64 k ∧ wfV (.int .i64 k) := eval_ok R (evs_of hy) (rdo_of hy)
  obtain ⟨bs, f1, f2, f3⟩ := mvC_ok R.mem h2 hm (noDup_of hj)
  have hr : e.rep w vs z bs := hc.iff.2 (f1.fit hfit)
  unfold wpList
  rw [if_pos (by simp [Region.wanted])]
  refine .inl ?_
  unfold Oper.wp
  rw [run_enter rfl hf hfe, Oper.upon_enter]
  simp only [List.map_toArray, List.map_cons, List.map_nil, h1, h3, Array.append_empty]
  refine (hM w vs bs hr (via_fresh R.mem (f3 rfl))).mono ?_
  rintro e' w' ⟨rfl, _, o⟩
  obtain ⟨q1, q2, q3⟩ := after_rep R p (f3 rfl).2 o hT hL
  have q4 : Rep N (g.after B L) ⟨(d, .one (.c (.int .i64 r'))) :: T, L⟩ (a.put (some d) (.int .i64 r')) w' := q1.put (blt_lt hN) ⟨rfl, hw⟩
  exact next Q Z _ _ _ q4 ⟨q2.le, q2.old, q2.own⟩ fun e a2 w2 h5 => hz e a2 w2 (h5.back q3)
theorem LM_markO {i : Nat} {α : Type} {U : TypeId} {e : Enc α} {z z' : List α} (T : Tmps) (L : Locs) (hN : Nat.blt d N = true) (hev : evo s.t fo = some (.one (.clo f []))) (hx : evo s.t x = some (.one (.own i))) (hy : evo s.t y = some (.one (.c (.int .i64 k))))
    (hf : Callable P f) (hM : MarkO P f e z k r' z') (hl : lkl s.l i = some (.arr U e z true)) (hw : wfV (.int .i64 r')) (hT : SubT B [i] s.t T) (hL : SubL B [i] s.l L)
    (next : LM P N B ops Kn r ⟨(d, .one (.c (.int .i64 r'))) :: T, L⟩) : LM P N B ops Kn (⟨some d, .call { callee := .value fo, args := #[x, y], argTypes := ats }, ty, pos, after, none⟩ :: r) s := fun Q Z g a w R p hz => by
  have hfe : a.eval fo = .func (.func f) #[] #[] := (eval_ok R (evs_of hev) (rdo_of hev) : CellR g s.l w (a.eval fo) (.clo f [])) (fun k hk => by cases hk)
  have h1 : CellR g s.l w (a.eval x) (.own i) := eval_ok R (evs_of hx) (rdo_of hx)
  obtain ⟨h3, _⟩ : a.eval y = .int .i64 k ∧ wfV (.int .i64 k) := eval_ok R (evs_of hy) (rdo_of hy)
  obtain ⟨bs, f1, f2, f3⟩ := mvC_ok R.mem (vs := [a.eval x]) (cs := [.own i]) (ds := [.sl e z]) (js := [i]) (d := true) ⟨h1, trivial⟩ (by simp [mvC, hl]) (by simp)
  obtain ⟨b1, b2, rfl, ⟨ad, n, cap, e1, e2⟩, rfl⟩ := f1
  rw [List.append_nil] at f2 f3
  unfold wpList
  rw [if_pos (by simp [Region.wanted])]
  refine .inl ?_
  unfold Oper.wp
  rw [run_enter rfl hf hfe, Oper.upon_enter]
  simp only [List.map_toArray, List.map_cons, List.map_nil, e1, h3, Array.append_empty]
  refine (hM w ad n cap b1 e2 (via_fresh R.mem (f3 rfl))).mono ?_
  rintro e' w' ⟨rfl, _, o⟩
  obtain ⟨q1, q2, q3⟩ := after_rep R p (f3 rfl).2 o hT hL
  have q4 : Rep N (g.after B L) ⟨(d, .one (.c (.int .i64 r'))) :: T, L⟩ (a.put (some d) (.int .i64 r')) w' := q1.put (blt_lt hN) ⟨rfl, hw⟩
  exact next Q Z _ _ _ q4 ⟨q2.le, q2.old, q2.own⟩ fun e a2 w2 h5 => hz e a2 w2 (h5.back q3)
/-- Values that are known by their cells. -/
def firm : Cell → Bool
  | .c _ => true
  | .own _ => true
  | _ => false
theorem firm_eq {g : Gh} {l : Locs} {w : World} : ∀ {vs us : List Value} {cs ds : List Cell} {js : List Nat} {q : Bool}, mvC l cs = some (ds, js, q) → cs.all firm = true → All2 (CellR g l w) vs cs → All2 (CellR g l w) us cs → vs = us
  | [], [], [], _, _, _, _, _, _, _ => rfl
  | [], _ :: _, [], _, _, _, _, _, _, h => h.elim
  | _ :: _, [], [], _, _, _, _, _, h, _ => h.elim
  | [], _, _ :: _, _, _, _, _, _, h, _ => h.elim
  | _ :: _, [], _ :: _, _, _, _, _, _, _, h => h.elim
  | _ :: _, _ :: _, [], _, _, _, _, _, h, _ => h.elim
  | v :: vs, u :: us, c :: cs, ds, js, q, hm, hf, h1, h2 => by
    simp only [List.all_cons, Bool.and_eq_true] at hf
    simp only [mvC] at hm
    split at hm
    · cases hm
    · rename_i ds1 js1 d1 h3
      have ih := firm_eq h3 hf.2 h1.2 h2.2
      subst ih
      cases c with
      | c z => rw [show v = z from h1.1.1, show u = z from h2.1.1]
      | own j =>
        simp only at hm
        split at hm
        · rename_i T e xs q hj
          rw [show v = _ from h1.1 _ _ _ _ _ hj, show u = _ from h2.1 _ _ _ _ _ hj]
        · cases hm
      | _ => cases hf.1
/-- What a slot says, at a new phase behind a mark. -/
inductive Stay (B B' : Nat) : AVal → AVal → Prop
  | c {v : Value} : Stay B B' (.one (.c v)) (.one (.c v))
  | epo {α : Type} {e : Enc α} {x : α} {o : Nat} : Stay B B' (.one (.epo B e x o)) (.one (.epo B' e x o))
  | slo {α : Type} {e : Enc α} {xs : List α} : Stay B B' (.one (.slo B e xs)) (.one (.slo B' e xs))
def StayT (B B' : Nat) (t : Tmps) : Tmps → Prop
  | [] => True
  | (k, x) :: r => (∃ y, lk t k = some y ∧ Stay B B' y x) ∧ StayT B B' t r
theorem StayT.get {B B' : Nat} {t : Tmps} : ∀ {T : Tmps} {k : Nat} {x : AVal}, StayT B B' t T → lk T k = some x → ∃ y, lk t k = some y ∧ Stay B B' y x
  | [], k, x, _, h => by simp [lk] at h
  | (j, z) :: r, k, x, hT, h => by
    by_cases e : j = k
    · subst e; rw [lk_cons_self] at h; cases h; exact hT.1
    · rw [lk_cons_ne e] at h; exact StayT.get hT.2 h
theorem Stay.ok {g : Gh} {l : Locs} {B : Nat} {w w' : World} {v : Value} {x y : AVal} (hs : w.heap.size ≤ w'.heap.size) (hB : B ≤ w.heap.size) (hk : ∀ b, b < B → w'.heap[b]? = w.heap[b]?) (h : Stay B w'.heap.size x y) (hv : VR g l w v x) : VR (allI w') [] w' v y := by
  cases h with
  | c => exact hv
  | epo =>
    obtain ⟨gb, o, cs, b, h1, h2, h3, h4, h5⟩ := hv
    have lt : ∀ c, c < B → c < w'.heap.size := fun c hc => by omega
    exact ⟨gb, o, cs, b, h1, ⟨lt _ h2.2, lt _ h2.2⟩, Enc.keep _ h3 (fun c hc => hk c (h4 c hc).2) hs, fun c hc => ⟨lt _ (h4 c hc).2, lt _ (h4 c hc).2⟩, fun j u hu => (World.cell?_of_block (w := w) (hk gb h2.2)).trans (h5 j u hu)⟩
  | slo =>
    obtain ⟨a, n, cap, bs, h1, h2, h3⟩ := hv
    have lt : ∀ c, c < B → c < w'.heap.size := fun c hc => by omega
    exact ⟨a, n, cap, bs, h1, h2.keep (fun b hb => hk b (h3 b hb).2) hs, fun b hb => ⟨lt _ (h3 b hb).2, lt _ (h3 b hb).2⟩⟩
theorem stay_rep {B : Nat} {g : Gh} {s : St} {a : Act} {w w' : World} {js bs : List Nat} (R : Rep N g s a w) (p : Ph B g s w) (hb : ∀ b ∈ bs, ∃ j ∈ js, Via g s.l j b) (o : Only bs w w') {T : Tmps} (hT : StayT B w'.heap.size s.t T) :
    Rep N (allI w') ⟨T, []⟩ a w' ∧ Ph w'.heap.size (allI w') ⟨T, []⟩ w' ∧ Below B w w' := by
  obtain ⟨q1, q2, q3⟩ := after_rep (T := []) (L := []) R p hb o trivial trivial
  refine ⟨⟨R.size, R.defers, fun k x hk => ?_, allI_mem w'⟩, ⟨Nat.le_refl _, fun b hb => hb, fun b ⟨k, blk, hk, _⟩ => by simp [lkl, lk] at hk⟩, q3⟩
  obtain ⟨y, h1, h2⟩ := hT.get hk
  exact h2.ok o.size p.le q3.block (R.tmp k y h1)
/-- The mark of a struct that lies in variable b, to which slot t points; from here on all is read alone. -/
theorem LM_markAK {cs ds : List Cell} {js : List Nat} {α : Type} {e : Enc α} {F : α → List Cell} [hc : CellsOf e F] {z z' : α} (t b : Nat) (T : Nat → Tmps) (hN : Nat.blt d N = true) (hev : evo s.t fo = some (.one (.clo f []))) (hx : evo s.t x = some (.agg cs)) (hy : evo s.t y = some (.one (.c (.int .i64 k))))
    (ht : lk s.t t = some (.one (.ptr b 0))) (hb : lkl s.l b = some (.box cs)) (hfm : cs.all firm = true) (htd : Nat.beq d t = false)
    (hf : Callable P f) (hM : MarkA P f e z k r' z') (hm : mvC s.l cs = some (ds, js, true)) (hj : noDup js = true) (hfit : FitL ds (F z)) (hw : wfV (.int .i64 r')) (hT : ∀ B', StayT B B' s.t (T B'))
    (next : ∀ B', LM P N B' ops Kn r ⟨(d, .one (.c (.int .i64 r'))) :: (t, .one (.epo B' e z' 0)) :: T B', []⟩) : LM P N B ops Kn (⟨some d, .call { callee := .value fo, args := #[x, y], argTypes := ats }, ty, pos, after, none⟩ :: r) s := fun Q Z g a w R p hz => by
  have hfe : a.eval fo = .func (.func f) #[] #[] := (eval_ok R (evs_of hev) (rdo_of hev) : CellR g s.l w (a.eval fo) (.clo f [])) (fun k hk => by cases hk)
  obtain ⟨vs, h1, h2⟩ : ∃ vs : List Value, a.eval x = .agg vs.toArray ∧ All2 (CellR g s.l w) vs cs := eval_ok R (evs_of hx) (rdo_of hx)
  obtain ⟨h3, _⟩ : a.eval y = .int .i64 k ∧ wfV (.int .i64 k) := eval_ok R (evs_of hy) (rdo_of hy)
  obtain ⟨bs, f1, f2, f3⟩ := mvC_ok R.mem h2 hm (noDup_of hj)
  have hr : e.rep w vs z bs := hc.iff.2 (f1.fit hfit)
  have hpt : a.tmps.getD t undef = .pointer (some ⟨g.ρ b, 0, none⟩) := (R.tmp t _ ht : CellR g s.l w _ (.ptr b 0)) cs hb
  obtain ⟨us, ut, u1, u2, u3⟩ := R.mem.box b cs hb
  have hvu := firm_eq hm hfm h2 u2
  have hnb : g.ρ b ∉ bs := fun hmem => by
    obtain ⟨j, _, β, U, e', zs, j1, j2⟩ := (f3 rfl).2 _ hmem
    rcases j2 with ⟨j3, j4⟩ | j3
    · exact R.mem.dis b j _ _ (fun e => by subst e; rw [hb] at j1; cases j1) hb j1 trivial j3 j4
    · exact u3 ((R.mem.fr j β U e' zs j1).2 _ j3).1
  unfold wpList
  rw [if_pos (by simp [Region.wanted])]
  refine .inl ?_
  unfold Oper.wp
  rw [run_enter rfl hf hfe, Oper.upon_enter]
  simp only [List.map_toArray, List.map_cons, List.map_nil, h1, h3, Array.append_empty]
  refine (hM w vs bs hr (via_fresh R.mem (f3 rfl))).mono ?_
  rintro e' w' ⟨rfl, hr', o⟩
  obtain ⟨q1, q2, q3⟩ := stay_rep R p (f3 rfl).2 o (hT w'.heap.size)
  have hub : w'.heap[g.ρ b]? = some (.cells us ut (0, 0)) := (o.keep _ (Array.getElem?_eq_some_iff.1 u1).1 hnb).trans u1
  have hgb : g.ρ b < w'.heap.size := (Array.getElem?_eq_some_iff.1 hub).1
  have hep : VR (allI w') [] w' (a.tmps.getD t undef) (.one (.epo w'.heap.size e z' 0)) := by
    rw [hpt]
    exact ⟨g.ρ b, 0, vs, bs, rfl, ⟨hgb, hgb⟩, hr', fun c hc => ⟨e.lt hr' c hc, e.lt hr' c hc⟩, fun j u hu => by rw [cell_of_heap hub, Nat.zero_add]; rw [hvu] at hu; simpa using hu⟩
  have q5 : Rep N (allI w') ⟨(t, .one (.epo w'.heap.size e z' 0)) :: T w'.heap.size, []⟩ a w' := ⟨q1.size, q1.defers, fun j y hj => by
    by_cases ej : t = j
    · subst ej; rw [lk_cons_self] at hj; cases hj; exact hep
    · rw [lk_cons_ne ej] at hj; exact q1.tmp j y hj, q1.mem⟩
  have q4 : Rep N (allI w') ⟨(d, .one (.c (.int .i64 r'))) :: (t, .one (.epo w'.heap.size e z' 0)) :: T w'.heap.size, []⟩ (a.put (some d) (.int .i64 r')) w' := q5.put (blt_lt hN) ⟨rfl, hw⟩
  exact next w'.heap.size Q Z _ _ _ q4 ⟨q2.le, q2.old, q2.own⟩ fun e a2 w2 h5 => hz e a2 w2 ((h5.down (Nat.le_trans p.le o.size)).back q3)
/-- .. of a slice in slot t. -/
theorem LM_markOK {i : Nat} {α : Type} {U : TypeId} {e : Enc α} {z z' : List α} (t : Nat) (T : Nat → Tmps) (hN : Nat.blt d N = true) (hev : evo s.t fo = some (.one (.clo f []))) (hx : evo s.t x = some (.one (.own i))) (hy : evo s.t y = some (.one (.c (.int .i64 k))))
    (ht : lk s.t t = some (.one (.own i))) (hf : Callable P f) (hM : MarkO P f e z k r' z') (hl : lkl s.l i = some (.arr U e z true)) (hw : wfV (.int .i64 r')) (hT : ∀ B', StayT B B' s.t (T B'))
    (next : ∀ B', LM P N B' ops Kn r ⟨(d, .one (.c (.int .i64 r'))) :: (t, .one (.slo B' e z')) :: T B', []⟩) : LM P N B ops Kn (⟨some d, .call { callee := .value fo, args := #[x, y], argTypes := ats }, ty, pos, after, none⟩ :: r) s := fun Q Z g a w R p hz => by
  have hfe : a.eval fo = .func (.func f) #[] #[] := (eval_ok R (evs_of hev) (rdo_of hev) : CellR g s.l w (a.eval fo) (.clo f [])) (fun k hk => by cases hk)
  have h1 : a.eval x = g.hd i := (eval_ok R (evs_of hx) (rdo_of hx) : CellR g s.l w (a.eval x) (.own i)) _ _ _ _ _ hl
  have ht1 : a.tmps.getD t undef = g.hd i := (R.tmp t _ ht : CellR g s.l w _ (.own i)) _ _ _ _ _ hl
  obtain ⟨h3, _⟩ : a.eval y = .int .i64 k ∧ wfV (.int .i64 k) := eval_ok R (evs_of hy) (rdo_of hy)
  obtain ⟨bs, f1, f2, f3⟩ := mvC_ok R.mem (vs := [a.eval x]) (cs := [.own i]) (ds := [.sl e z]) (js := [i]) (d := true) ⟨eval_ok R (evs_of hx) (rdo_of hx), trivial⟩ (by simp [mvC, hl]) (by simp)
  obtain ⟨b1, b2, rfl, ⟨ad, n, cap, e1, e2⟩, rfl⟩ := f1
  rw [List.append_nil] at f2 f3
  unfold wpList
  rw [if_pos (by simp [Region.wanted])]
  refine .inl ?_
  unfold Oper.wp
  rw [run_enter rfl hf hfe, Oper.upon_enter]
  simp only [List.map_toArray, List.map_cons, List.map_nil, e1, h3, Array.append_empty]
  refine (hM w ad n cap b1 e2 (via_fresh R.mem (f3 rfl))).mono ?_
  rintro e' w' ⟨rfl, hr', o⟩
  obtain ⟨q1, q2, q3⟩ := stay_rep R p (f3 rfl).2 o (hT w'.heap.size)
  have hep : VR (allI w') [] w' (a.tmps.getD t undef) (.one (.slo w'.heap.size e z')) := by
    rw [ht1, ← h1, e1]
    exact ⟨ad, n, cap, b1, rfl, hr', fun c hc => ⟨hr'.lt c hc, hr'.lt c hc⟩⟩
  have q5 : Rep N (allI w') ⟨(t, .one (.slo w'.heap.size e z')) :: T w'.heap.size, []⟩ a w' := ⟨q1.size, q1.defers, fun j y hj => by
    by_cases ej : t = j
    · subst ej; rw [lk_cons_self] at hj; cases hj; exact hep
    · rw [lk_cons_ne ej] at hj; exact q1.tmp j y hj, q1.mem⟩
  have q4 : Rep N (allI w') ⟨(d, .one (.c (.int .i64 r'))) :: (t, .one (.slo w'.heap.size e z')) :: T w'.heap.size, []⟩ (a.put (some d) (.int .i64 r')) w' := q5.put (blt_lt hN) ⟨rfl, hw⟩
  exact next w'.heap.size Q Z _ _ _ q4 ⟨q2.le, q2.old, q2.own⟩ fun e a2 w2 h5 => hz e a2 w2 ((h5.down (Nat.le_trans p.le o.size)).back q3)
end mark
end lm
/-- A variable that is read alone since an earlier phase. -/
def upC (B : Nat) : Cell → Cell
  | .sl e xs => .slo B e xs
  | c => c
theorem FR.all2o {g : Gh} {l : Locs} {w : World} {B : Nat} : ∀ {vs : List Value} {cs : List Cell} {b : List Nat}, FR w vs cs b → (∀ i ∈ b, g.I i ∧ i < B) → All2 (CellR g l w) vs (cs.map (upC B))
  | [], [], b, _, _ => trivial
  | v :: vs, c :: cs, b, h, hI => by
    obtain ⟨b1, b2, rfl, h1, h2⟩ := h
    refine ⟨?_, FR.all2o h2 fun i hi => hI i (List.mem_append_right _ hi)⟩
    cases c with
    | c u => exact ⟨h1.1, h1.2.1⟩
    | sl e xs =>
      obtain ⟨a, n, cap, h3, h4⟩ := h1
      exact ⟨a, n, cap, b1, h3, h4, fun i hi => hI i (List.mem_append_left _ hi)⟩
    | _ => exact h1.elim
section pload
variable {P : Program} {N : Nat} {s : St} {d : Nat} {ty : TypeId} {pos : String} {after : Array Edge} {gd : Option (Nat × Bool)}
theorem x_pload {α : Type} {e : Enc α} {f : α → List Cell} [hc : CellsOf e f] {T B n : Nat} {x : Operand} {z : α} {cs : List Cell} (hN : Nat.blt d N = true) (h : evo s.t x = some (.one (.epo B e z 0))) (hT : kindT P T = some (some n)) (hl : (f z).length = n) (hcs : (f z).map (upC B) = cs) :
    Stp P N ⟨some d, .load T x, ty, pos, after, gd⟩ s ⟨(d, .agg cs) :: s.t, s.l⟩ ⟨rdo x (.one (.epo B e z 0)), [], [(d, .agg cs)], [], []⟩ :=
  Stp.pure rfl hN (rdo_of h) (by simp) fun g s' a w ht hl' r => by
    obtain ⟨gb, o, vs, b, h1, h2, h3, h4, h5⟩ : CellR g s'.l w (a.eval x) (.epo B e z 0) := eval_ok r (evs_of h) ht
    have hfr := hc.iff.1 h3
    subst hcs
    have hlen : vs.length = n := by rw [← hl]; exact hfr.length
    have hrun := run_load_agg (P := P) (T := T) hT (w := w) (a := ⟨gb, o + 0, none⟩) hlen (fun j v hj => by rw [addr_add]; exact h5 j v hj)
    exact ⟨_, by simp only [execOp, Instr.loadAt, h1, Instr.sureAddr, Sem.run_bind, Sem.run_pure, Result.andThen_ok, hrun], ⟨vs, rfl, hfr.all2o fun i hi => h4 i hi⟩⟩
end pload
/-! ### The entry of a law -/
def EndT (r : Nat) (s : St) : Prop := lk s.t r = some (.one (.c (.bool true)))
def EndQ (r : Nat) : Exit → St → Prop
  | .ret, s => EndT r s
  | _, _ => False
theorem AM_law {P : Program} {f : FuncId} {fn : Func} {c : Code} {N r : Nat} {args : List AVal} (hf : P.funcs[f]? = some fn) (hb : fn.body = some c) (hN : fn.ntmps = N) (hA : Nat.ble args.length N = true) (hr : fn.results = #[.tmp r])
    (w : World) (cargs : Array Value) (ha : All2 (VR1 (allI w) [] w) cargs.toList args) (h : ∀ B, AM P N B c (EndT r) (EndQ r) ⟨args0 args 0, []⟩) : Calls P f cargs w fun e w' => e = .returned (.bool true) ∧ Below w.heap.size w w' := by
  subst hN
  have R := entry_rep (N := fn.ntmps) (allI_mem w) ha (Nat.le_of_ble_eq_true hA)
  refine calls_of_wp hf hb (Go.wp_mono (h w.heap.size (allI w) _ w R ⟨Nat.le_refl _, fun b hb => hb, fun b ⟨k, blk, hk, _⟩ => by simp [lkl, lk] at hk⟩) ?_)
  rintro e a1 w1 ⟨g1, s1, R1, p1, b1, hR⟩
  have fin : EndT r s1 → a1.defers = [] ∧ ∃ v, (results fn a1.tmps).run P w1 = .ok v w1 ∧ Ending.returned v = .returned (.bool true) ∧ Below w.heap.size w w1 := fun ht => by
    have hv : a1.tmps.getD r undef = .bool true ∧ wfV (.bool true) := R1.tmp r _ ht
    exact ⟨R1.defers, _, results_tmp hr _ _ _, by rw [hv.1], b1⟩
  cases e with
  | normal => exact fin hR
  | ret => exact fin hR
  | exit id => exact hR.elim
  | goto l => exact hR.elim
  | panic ch => exact hR.elim
  | outgrown => exact hR.elim
end Go.Proofs.Ytibhoanjglfaoaa

/- Texts and bytes in the abstract walk: the bytes of a text, appended. -/
namespace Go.Proofs.Ytibhoanjglfaoaa
open Go.RowKit
set_option linter.unusedVariables false

/-- The bytes of a text. -/
def strBytes (s : ByteArray) : List Int := s.data.toList.map fun b => (b.toNat : Int)
theorem strBytes_len (s : ByteArray) : (strBytes s).length = s.size := by rw [strBytes, List.length_map, Array.length_toList]; rfl
theorem u8_fine (b : UInt8) : (Lit.int .u8 (b.toNat : Int)).wf = true := by
  have := b.toNat_lt
  simp only [Lit.wf, Bool.and_eq_true, decide_eq_true_eq]
  have h1 : IntKind.u8.min = 0 := rfl
  have h2 : IntKind.u8.max = 255 := rfl
  rw [h1, h2]; omega
theorem FR.bytes {w : World} : ∀ (l : List UInt8), FR w (l.map fun b => Value.int .u8 b.toNat) ((l.map fun b => (b.toNat : Int)).flatMap fun n => [Cell.c (.int .u8 n)]) []
  | [] => rfl
  | b :: l => ⟨[], [], rfl, ⟨rfl, u8_fine b, rfl⟩, FR.bytes l⟩
theorem run_app_str {P : Program} (w : World) (t u ty e : TypeId) (i : TypeInfo) (ht : P.underlying t = some (.slice e)) (hu : P.underlying u = some .string) (hi : P.info? e = some i) (hz : i.zero = some (.int .u8 0))
    (hsize : i.size = 1) (hby : i.bytes = 1) (v : Value) (n : Nat) (xs : List Value) (hown : w.ownsRow 0 e 1 v n xs) (s : ByteArray) (hle : n + s.size ≤ 1000000000) :
    ∃ v' w', (Builtin.append_ #[t, u] ty #[v, .string s]).run P w = .ok v' w' ∧ w'.ownsRow 0 e 1 v' (n + s.size) (xs ++ Lib.strCells s) ∧ w.grownBy w' v.ownBlock ∧
      ∀ b, v'.ownBlock = some b → v.ownBlock = some b ∨ w.heap.size ≤ b := by
  obtain ⟨v', w', q1, q2, q3, q4⟩ := Lib.run_append_own_string (P := P) w 0 t u ty e i ht hu hi hz hsize hby v n xs hown s (by unfold maxLen; omega) (by omega) (Nat.zero_le _)
  refine ⟨v', w', q1, q2, q3, fun b hb => ?_⟩
  have hxl : xs.length = n := by simpa using hown.1
  rcases hown.2 with ⟨rfl, rfl⟩ | ⟨g, cap, cur, rfl, hbg, hg, hnc, hcm, hcs, htake⟩
  · by_cases hm : s.size = 0
    · rw [q4.2 ⟨rfl, hm⟩] at hb; cases hb
    · have hr := run_append_nil_string (P := P) w t u ty e i (.int .u8 0) ht hu hi hz s (by omega) (by omega) (by rw [hby]; omega)
      rw [hr] at q1
      cases q1
      right
      cases hb
      exact Nat.le_refl _
  · by_cases hroom : n + s.size ≤ cap
    · have hcs' : cur.size = cap := by simpa using hcs
      have hr := Lib.run_append_room_string (P := P) w t u ty e i ht hu hi hsize g n cap cur hg s hroom (by omega)
      rw [hr] at q1
      cases q1
      left
      exact hb
    · have holds : ∀ j u, xs[j]? = some u → w.cell? ((⟨g, 0, none⟩ : Addr).add j) = some u := hown.cells (g := g) rfl
      have hr := Lib.run_append_grow_string (P := P) w t u ty e i (.int .u8 0) ht hu hi hz ⟨g, 0, none⟩ n cap xs (by rw [hsize]; simpa using hxl) holds s (by omega) (by omega) (by rw [hby]; exact growslice_fits (by omega) (by omega))
      rw [hr] at q1
      cases q1
      right
      cases hb
      exact Nat.le_refl _
section ops
variable {P : Program} {N : Nat} {s : St} {d : Nat} {ty : TypeId} {pos : String} {after : Array Edge} {gd : Option (Nat × Bool)}
/-- The type of slices of bytes and that of texts. -/
def byteT (P : Program) (T U E : TypeId) : Bool :=
  match P.underlying T, P.underlying U, P.underlying E, P.info? E with
  | some (.slice E'), some .string, some (.int .u8), some i => Nat.beq E' E && Nat.beq i.size 1 && Nat.beq i.bytes 1 && (match i.zero with | some (.int .u8 z) => (match z with | .ofNat 0 => true | _ => false) | _ => false)
  | _, _, _, _ => false
theorem byteT_spec {T U E : TypeId} (h : byteT P T U E = true) : P.underlying T = some (.slice E) ∧ P.underlying U = some .string ∧ P.underlying E = some (.int .u8) ∧ ∃ i, P.info? E = some i ∧ i.size = 1 ∧ i.bytes = 1 ∧ i.zero = some (.int .u8 0) := by
  unfold byteT at h
  split at h
  · rename_i E' i h1 h2 h3 h4
    simp only [Bool.and_eq_true] at h
    obtain ⟨⟨⟨e1, e2⟩, e3⟩, e4⟩ := h
    obtain rfl := Nat.eq_of_beq_eq_true e1
    refine ⟨h1, h2, h3, i, h4, Nat.eq_of_beq_eq_true e2, Nat.eq_of_beq_eq_true e3, ?_⟩
    split at e4
    · rename_i z hz
      split at e4
      · rw [hz]; rfl
      · cases e4
    · cases e4
  · cases h
theorem run_appop2 {a : Act} {w w' : World} {v' : Value} {x y : Operand} {T U : TypeId} (h : (Builtin.append_ #[T, U] ty #[a.eval x, a.eval y]).run P w = .ok v' w') :
    (execOp a.eval ⟨some d, .call { callee := .builtin .append, args := #[x, y], argTypes := #[T, U] }, ty, pos, after, gd⟩).run P w = .ok (.value v') w' := by
  simp only [execOp, resolve, invoke, builtin, Sem.run_bind, Sem.run_pure, Result.andThen_ok, List.map_toArray, List.map_cons, List.map_nil, h]
/-- append of a text's bytes. -/
theorem x_append_str {T U E : TypeId} {x y : Operand} {xs : List Int} {b : ByteArray} {d1 : Bool} {k : Nat} (k' : Nat) (hN : Nat.blt d N = true)
    (h : evo s.t x = some (.one (.own k))) (h2 : evo s.t y = some (.one (.c (.string b)))) (hl : lkl s.l k = some (.arr E (intE .u8) xs d1))
    (hT : byteT P T U E = true) (hk : lk s.l k' = none) (hi : noId k' s.ids = true) (hbnd : xs.length + b.size ≤ 1000000000) :
    Stp P N ⟨some d, .call { callee := .builtin .append, args := #[x, y], argTypes := #[T, U] }, ty, pos, after, gd⟩ s ⟨(d, .one (.own k')) :: s.t, (k', some (.arr E (intE .u8) (xs ++ strBytes b) d1)) :: (gones [k] ++ s.l)⟩
      ⟨rdo x (.one (.own k)) ++ rdo y (.one (.c (.string b))), [(k, .arr E (intE .u8) xs d1)], [(d, .one (.own k'))], (k', some (.arr E (intE .u8) (xs ++ strBytes b) d1)) :: gones [k], [k']⟩ := by
  refine ⟨fun K g s' a w hp r => ?_, ⟨two_rd h h2, by simp [hl], fun j hj => by simp at hj; subst hj; exact ⟨hk, noId_of hi⟩⟩, by simp [Cert.upd]⟩
  obtain ⟨p1, p2, p3⟩ := hp
  have e1 : CellR g s'.l w (a.eval x) (.own k) := eval_ok r (evs_of h) fun p hp => p1 p (List.mem_append_left _ hp)
  have e2 : a.eval y = .string b := (eval_ok r (evs_of h2) fun p hp => p1 p (List.mem_append_right _ hp) : CellR g s'.l w (a.eval y) (.c (.string b))).1
  have hl' : lkl s'.l k = some (.arr E (intE .u8) xs d1) := p2 (k, .arr E (intE .u8) xs d1) (by simp)
  replace e1 := e1 _ _ _ _ _ hl'
  obtain ⟨n1, n2⟩ := p3 k' (by simp)
  obtain ⟨hu, hus, he, ti, hti, t1, t2, t3⟩ := byteT_spec hT
  obtain ⟨cells, b1, r1, f1, i1, F1, ob1⟩ := (r.mem.arr k _ _ _ _ _ hl').row
  obtain ⟨v', w', q1, q2, q3, q4⟩ := run_app_str (P := P) w T U ty E ti hu hus hti t3 t1 t2 _ _ _ r1 b hbnd
  have hgone : ∀ i ∈ [k], ∃ (α : Type) (T : TypeId) (e : Enc α) (xs : List α) (d : Bool), lkl s'.l i = some (.arr T e xs d) := fun i hi => by
    simp at hi
    subst hi
    exact ⟨Int, E, intE .u8, xs, d1, hl'⟩
  have hb1 : b1 = [] := FR.nofp (e := intE .u8) (fun w cs y b h => h.2.2) f1
  subst hb1
  obtain ⟨g', s1, s2, s3, s4, s5, s6⟩ := app_lay (w' := w') r.mem n1 (fun h => n2 (List.mem_append_right _ h)) (js := [k]) (List.mem_cons_self ..) hgone (E := E) (e := intE .u8) (xs := xs) (ys := strBytes b) (d := d1) f1 (FR.bytes (w := w) b.data.toList)
    (fun b hb => by cases hb) ob1 (by rw [strBytes_len]; exact q2) q3 q4 (fun _ => ⟨List.nodup_nil, fun b hb => by cases hb⟩)
  unfold Oper.wp
  rw [run_appop2 (by rw [e1, e2]; exact q1), Oper.upon_value]
  refine ⟨g', r.next (blt_lt hN) s4 s5 q3.size (fun j hj => s6 j fun e => n2 (e ▸ hj)) (fun β U e2 ys dd hc => ?_) s2, s3 K⟩
  exact s1.symm
/-- New blocks that nobody writes. -/
def Gh.more (g : Gh) (w w' : World) : Gh := { g with I := fun b => g.I b ∨ (w.heap.size ≤ b ∧ b < w'.heap.size) }
theorem MemR.grow {g : Gh} {l : Locs} {w w' : World} (m : MemR g l w) (hk : ∀ b, b < w.heap.size → w'.heap[b]? = w.heap[b]?) (hs : w.heap.size ≤ w'.heap.size) : MemR (g.more w w') l w' where
  ilt := fun b hb => hb.elim (fun h => Nat.lt_of_lt_of_le (m.ilt b h) hs) fun h => h.2
  box := fun k cs hl => by
    obtain ⟨vs, t, h1, h2, h3⟩ := m.box k cs hl
    have hlt : g.ρ k < w.heap.size := (Array.getElem?_eq_some_iff.1 h1).1
    refine ⟨vs, t, (hk _ hlt).trans h1, h2.mono fun a b _ hr => CellR.step (fun b hb => hk b (m.ilt b hb)) (fun _ h => .inl h) hs (fun _ _ => okK.same rfl rfl rfl) hr, fun h => h.elim h3 fun h => ?_⟩
    have h4 : w.heap.size ≤ g.ρ k := h.1
    omega
  arr := fun k α T e xs d hl => by
    rcases m.arr k α T e xs d hl with h | ⟨cap, vs, bss, h1, h2, h3, h4, h5, h6, h7, h8, h9⟩
    · exact .inl h
    · have hlt : g.ρ k < w.heap.size := (Array.getElem?_eq_some_iff.1 h4).1
      refine .inr ⟨cap, vs, bss, h1, h2, h3, (hk _ hlt).trans h4, h5, h6.keep (hk _ hlt) (fun b hb => hk b (m.ilt b (h7 b hb))) hs, fun b hb => .inl (h7 b hb), fun h => h.elim h8 fun h => ?_, h9⟩
      have h10 : w.heap.size ≤ g.ρ k := h.1
      omega
  dis := fun j k b b' h1 h2 h3 h4 h5 => m.dis j k b b' h1 h2 h3 (by cases b <;> exact h4) (by cases b' <;> exact h5)
  fr := fun k α T e xs hl => by
    obtain ⟨h1, h2⟩ := m.fr k α T e xs hl
    refine ⟨h1, fun b hb => ⟨.inl (h2 b hb).1, ?_⟩⟩
    obtain ⟨c, t, h⟩ := (h2 b hb).2
    exact ⟨c, t, (hk b (m.ilt b (h2 b hb).1)).trans h⟩
  fd := m.fd
/-- The bytes of a text, in new memory that nobody writes. -/
theorem x_bytes {T U E : TypeId} {x : Operand} {b : ByteArray} (hN : Nat.blt d N = true) (h : evo s.t x = some (.one (.c (.string b)))) (hT : byteT P T U E = true) :
    Stp P N ⟨some d, .convert U T x, ty, pos, after, gd⟩ s ⟨(d, .one (.sl (intE .u8) (strBytes b))) :: s.t, s.l⟩ ⟨rdo x (.one (.c (.string b))), [], [(d, .one (.sl (intE .u8) (strBytes b)))], [], []⟩ := by
  refine ⟨fun K g s' a w hp r => ?_, ⟨rdo_of h, by simp, fun j hj => by cases hj⟩, rfl⟩
  obtain ⟨p1, p2, p3⟩ := hp
  obtain ⟨e2, hwf⟩ : CellR g s'.l w (a.eval x) (.c (.string b)) := eval_ok r (evs_of h) p1
  have hsz : b.size ≤ maxLen := hwf
  obtain ⟨hu, hus, he, ti, hti, t1, t2, t3⟩ := byteT_spec hT
  have hrun := Lib.run_convert_string_bytes (P := P) w U T E b hus hu he
  have hold := Lib.bytesWorld_at_old w E b
  have hnew := Lib.bytesWorld_at_new w E b
  have hsize := Lib.bytesWorld_size w E b
  have hcap := grownCap_ge w b.size 0 E
  have hcm : grownCap w b.size 0 E ≤ maxLen := grownCap_le_maxLen w b.size 0 E hsz
  have hcell := Lib.bytesWorld_cell w E b
  have hos : (Lib.bytesWorld w E b).os = w.os ∧ (Lib.bytesWorld w E b).tape = w.tape ∧ (Lib.bytesWorld w E b).output = w.output := by
    refine ⟨?_, ?_, ?_⟩ <;> simp [Lib.bytesWorld, World.freeze, World.alloc, World.drew, -World.alloc_eq, -World.drew_eq]
  generalize Lib.bytesWorld w E b = w' at *
  clear hnew
  generalize grownCap w b.size 0 E = cp at *
  have hs : w.heap.size ≤ w'.heap.size := by omega
  have m' := r.mem.grow hold hs
  unfold Oper.wp
  have hrun' : (execOp a.eval ⟨some d, .convert U T x, ty, pos, after, gd⟩).run P w = .ok (.value (.slice (some ⟨w.heap.size, 0, none⟩) b.size cp)) w' := by
    simp only [execOp, e2, Sem.run_bind, hrun, Result.andThen_ok]; rfl
  rw [hrun', Oper.upon_value]
  have hI : ∀ c, g.I c → w'.heap[c]? = w.heap[c]? := fun c hc => hold c (r.mem.ilt c hc)
  refine ⟨g.more w w', r.next (blt_lt hN) hI (fun _ h => .inl h) hs (fun _ _ => okK.same rfl rfl rfl) ?_ m', ⟨hos.1, hos.2.1, hos.2.2, hs, fun c hc _ => hold c hc, fun _ h => .inl h, fun c hc => hc.elim .inl fun h => .inr (.inl h.1), fun c hc => ?_, fun k _ hk => ⟨hk, okK.same rfl rfl rfl, fun cs h => ⟨cs, h⟩⟩⟩⟩
  · show CellR (g.more w w') s'.l w' _ (.sl (intE .u8) (strBytes b))
    by_cases hb : strBytes b = []
    · have h0 : b.size = 0 := by rw [← strBytes_len, hb]; rfl
      rw [hb, h0]
      exact ⟨_, _, _, [], rfl, ⟨rfl, Nat.zero_le _, by omega, (fun h => by cases h), .inl ⟨rfl, rfl⟩⟩, fun _ hc => by cases hc⟩
    · refine ⟨_, _, _, w.heap.size :: (List.replicate b.size []).flatten, rfl, SliceRep.mk (by rw [strBytes_len]) hcap hcm hb (by omega) ⟨by simp [strBytes_len], fun i x c hx hc => ?_⟩, fun c hc => ?_⟩
      · obtain ⟨hi, rfl⟩ := List.getElem?_eq_some_iff.1 hx
        rw [List.getElem?_replicate] at hc
        split at hc
        · cases hc
          refine ⟨[.int .u8 (strBytes b)[i]], ⟨rfl, ?_, rfl⟩, fun j u hu => ?_⟩
          · simp only [strBytes, List.getElem_map]; exact u8_fine _
          · cases j with
            | zero =>
              cases hu
              have hi' : i < b.size := by rw [← strBytes_len]; exact hi
              have := hcell i hi'
              have e3 : 0 + i * (intE .u8).size + 0 = i := by show 0 + i * 1 + 0 = i; omega
              rw [e3, this]
              simp [strBytes, List.getD, hi']
            | succ j => cases hu
        · cases hc
      · right
        rcases List.mem_cons.1 hc with rfl | hc
        · exact ⟨Nat.le_refl _, by omega⟩
        · simp at hc
  · obtain ⟨k, blk, hk, h2⟩ := hc
    exact .inl ⟨k, blk, hk, by cases blk <;> exact h2⟩
end ops
end Go.Proofs.Ytibhoanjglfaoaa

/- A contract that takes arrays and leaves others, under other numbers. -/
namespace Go.Proofs.Ytibhoanjglfaoaa
open Go.RowKit
set_option linter.unusedVariables false

theorem all2_unren {r : Nat → Nat} {l L : Locs} {g : Gh} {w : World} (hL : LeL r l L) : ∀ {vs : List Value} {xs : List AVal}, All2 (VR1 g l w) vs (xs.map (AVal.ren1 r)) → All2 (VR1 (g.ren r) L w) vs xs
  | [], [], _ => trivial
  | v :: vs, x :: xs, h => ⟨VR1.unren hL h.1, all2_unren hL h.2⟩
  | [], _ :: _, h => by cases h
  | _ :: _, [], h => by cases h
/-- A contract that takes the blocks L: what becomes of them is not told. -/
structure AT (P : Program) (f : FuncId) (args : List AVal) (L : Locs) (res : AVal) (L' : Locs) : Prop where
  fn : Callable P f
  run : ∀ (g : Gh) (w : World) (cargs : Array Value), MemR g L w → All2 (VR1 g L w) cargs.toList args →
    Calls P f cargs w fun e w' => ∃ v g', e = .returned v ∧ MemR g' L' w' ∧ VR g' L' w' v res ∧ Step [] g L w g' L' w'
section body
variable {P : Program} {N : Nat} {f : FuncId} {fn : Func} {c : Code} {args : List AVal} {L L' : Locs}
theorem AT_of {res : AVal} {T : Tmps} (hf : P.funcs[f]? = some fn) (hb : fn.body = some c) (hn : (fn.name == "runtime.NumGoroutine") = false) (hN : fn.ntmps = N) (hA : Nat.ble args.length N = true)
    (hr : ∀ (g : Gh) (a : Act) (w : World), Rep N g ⟨T, L'⟩ a w → ∃ v, (results fn a.tmps).run P w = .ok v w ∧ VR g L' w v res)
    (h : AW P N [] c (RetS [] T L') (RetQ [] T L') ⟨args0 args 0, L⟩) : AT P f args L res L' := by
  refine ⟨⟨fn, c, hf, hb, hn⟩, fun g w cargs m ha => ?_⟩
  subst hN
  have R := entry_rep m ha (Nat.le_of_ble_eq_true hA)
  refine calls_of_wp hf hb (Go.wp_mono (h g _ w R) ?_)
  rintro e a1 w1 ⟨g1, s1, R1, hs, hR⟩
  have fin : RetS [] T L' s1 → a1.defers = [] ∧ ∃ v, (results fn a1.tmps).run P w1 = .ok v w1 ∧ ∃ v' g', Ending.returned v = .returned v' ∧ MemR g' L' w1 ∧ VR g' L' w1 v' res ∧ Step [] g L w g' L' w1 := by
    rintro ⟨r, hle⟩
    have R2 := R1.le hle
    obtain ⟨v, h1, h2⟩ := hr _ a1 w1 R2
    exact ⟨R1.defers, v, h1, v, _, rfl, R2.mem, h2, hs.trans m R1.mem (Step.unren hle.l hle.k)⟩
  cases e with
  | normal => exact fin hR
  | ret => exact fin hR
  | exit id => exact hR
  | goto l => exact hR
  | panic ch => exact hR.elim
  | outgrown => exact hR.elim
theorem AT_body1 {r : Nat} {x : AVal} (hf : P.funcs[f]? = some fn) (hb : fn.body = some c) (hn : (fn.name == "runtime.NumGoroutine") = false) (hN : fn.ntmps = N) (hA : Nat.ble args.length N = true) (hr : fn.results = #[.tmp r])
    (h : AW P N [] c (RetS [] [(r, x)] L') (RetQ [] [(r, x)] L') ⟨args0 args 0, L⟩) : AT P f args L x L' :=
  AT_of hf hb hn hN hA (fun g a w R => ⟨_, results_tmp hr _ _ _, R.tmp r x lk_cons_self⟩) h
end body
/-- The lent blocks l are all gone behind the call. -/
theorem AT.lend {P : Program} {f : FuncId} {args : List AVal} {L L' l l' : Locs} {res' : AVal} (r s : Nat → Nat) (h : AT P f args L (res'.ren s) L') (hL : LeL r l L) (hi : injL r (keys L) = true) (hL' : LeL s L' l') (hi' : injL s (keys l') = true)
    (hg : ∀ k ∈ keys l, lk l' k = some none) (hb : ∀ k cs, lkl l k ≠ some (.box cs)) : AC P f (args.map (AVal.ren1 r)) l res' l' :=
  ⟨h.fn, fun g w cargs m ha => (h.run (g.ren r) w cargs (m.unren hL hi) (all2_unren hL ha)).mono (by
    rintro e w' ⟨v, g1, rfl, m1, hv, hs⟩
    have m0 := m.unren hL hi
    have A : Step [] g l w (g.ren r) L w := Step.unren hL trivial
    have B : Step [] (g.ren r) L w g1 L' w' := hs
    have C : Step [] g1 L' w' (g1.ren s) l' w' := Step.unren hL' trivial
    have T := (A.trans m m0 B).trans m m1 C
    refine ⟨v, g1.ren s, rfl, m1.unren hL' hi', VR.unren hL' hv, { T with base := fun k hk hn => ?_ }⟩
    have h1 := hg k hk
    have h2 : lkl l' k = none := by unfold lkl; rw [h1]
    exact ⟨by rw [h1]; simp, okK.gone h2, fun cs hc => absurd hc (hb k cs)⟩)⟩
/-- One array is taken, one is left. -/
theorem AT.lend1 {P : Program} {f : FuncId} {rest : List AVal} {α β : Type} {T U : TypeId} {e : Enc α} {e' : Enc β} {xs : List α} {ys : List β} {d d' : Bool}
    (h : AT P f (.one (.own 0) :: rest) [(0, some (.arr T e xs d))] (.one (.own 1)) [(1, some (.arr U e' ys d'))]) (a c : Nat) (hac : Nat.beq a c = false) (hrest : ∀ r, rest.map (AVal.ren1 r) = rest) :
    AC P f (.one (.own a) :: rest) [(a, some (.arr T e xs d))] (.one (.own c)) [(a, none), (c, some (.arr U e' ys d'))] := by
  have hne : a ≠ c := fun h => by rw [h, Nat.beq_refl] at hac; cases hac
  have hs : (fun k => bif Nat.beq k a then 0 else 1) c = 1 := by
    show (bif Nat.beq c a then 0 else 1) = 1
    have : Nat.beq c a = false := by
      cases e : Nat.beq c a
      · rfl
      · exact absurd (Nat.eq_of_beq_eq_true e).symm hne
    rw [this]; rfl
  have := AT.lend (res' := .one (.own c)) (l := [(a, some (.arr T e xs d))]) (l' := [(a, none), (c, some (.arr U e' ys d'))]) (fun _ => a) (fun k => bif Nat.beq k a then 0 else 1) (L := [(0, some (.arr T e xs d))]) (L' := [(1, some (.arr U e' ys d'))])
    (by show AT P f _ _ (.one (.own _)) _; rw [hs]; exact h) ⟨⟨.arr T e xs d, by simp [lkl, lk], (BLe.rf : BLe (.arr T e xs d) (.arr T e xs d))⟩, trivial⟩ (by simp [injL, keys]) ⟨⟨_, by rw [hs]; rfl, BLe.rf⟩, trivial⟩ (by
      have h2 : Nat.beq c a = false := by
        cases e : Nat.beq c a
        · rfl
        · exact absurd (Nat.eq_of_beq_eq_true e).symm hne
      simp [injL, keys, h2]
      rfl) (fun k hk => by simp [keys] at hk; subst hk; simp [lk]) (fun k cs hc => by
        cases hq : Nat.beq a k <;> simp [lkl, lk, hq] at hc)
  rw [List.map_cons, hrest] at this
  exact this
end Go.Proofs.Ytibhoanjglfaoaa

/- A delta that fits a store, in plain words. -/
namespace Go.Proofs.Ytibhoanjglfaoaa
open Go.RowKit
set_option linter.unusedVariables false

theorem relOk_vals2 {a : Relt} (h : relOk a = true) : ∀ r ∈ a.rows, ∀ v ∈ r, valOk v = true := fun r hr v hv => by
  obtain ⟨j, hj, rfl⟩ := List.getElem_of_mem hr
  exact (relOk_sorted h).1 j hj v hv
/-- The relation of a name. -/
def namedIn (l : List Namedt) (n : ByteArray) : Relt × Bool := match l.find? fun x => x.name == n with
  | some x => (x.rel, true)
  | none => (⟨0, []⟩, false)
theorem find_at {α : Type} {p : α → Bool} : ∀ {l : List α} {k : Nat} (hk : k < l.length), NoneTo p l k → p l[k] = true → l.find? p = some l[k]
  | [], k, hk, _, _ => absurd hk (by simp)
  | x :: l, 0, hk, _, hp => by simp at hp; simp [hp]
  | x :: l, k + 1, hk, h, hp => by
    have h0 := h 0 (by simp) (by omega)
    simp only [List.getElem_cons_zero] at h0
    rw [List.find?_cons, h0]
    exact find_at (l := l) (k := k) (by simpa using hk) (fun j hj hjk => by have := h (j + 1) (by simpa using hj) (by omega); simpa using this) (by simpa using hp)
theorem find_none {α : Type} {p : α → Bool} {l : List α} {k : Nat} (h : NoneTo p l k) (hk : l.length ≤ k) : l.find? p = none := by
  rw [List.find?_eq_none]
  intro x hx
  obtain ⟨j, hj, rfl⟩ := List.getElem_of_mem hx
  simp [h j hj (by omega)]
theorem namedIn_at {l : List Namedt} {n : ByteArray} {k : Nat} (hk : k < l.length) (h : NoneTo (fun x => x.name == n) l k) (hp : (l[k].name == n) = true) : namedIn l n = (l[k].rel, true) := by
  unfold namedIn; rw [find_at hk h hp]
theorem namedIn_none {l : List Namedt} {n : ByteArray} {k : Nat} (h : NoneTo (fun x => x.name == n) l k) (hk : l.length ≤ k) : namedIn l n = (⟨0, []⟩, false) := by
  unfold namedIn; rw [find_none h hk]
theorem namedIn_mem {l : List Namedt} {n : ByteArray} (h : (namedIn l n).2 = true) : ∃ x ∈ l, (namedIn l n).1 = x.rel := by
  unfold namedIn at h ⊢
  split at h
  · rename_i x hx
    exact ⟨x, List.mem_of_find?_eq_some hx, rfl⟩
  · cases h
theorem namedIn_ok {s : Storet} {n : ByteArray} (hs : storeOk s = true) (h : (namedIn s.rels n).2 = true) : relOk (namedIn s.rels n).1 = true := by
  obtain ⟨x, hx, e⟩ := namedIn_mem h
  obtain ⟨j, hj, rfl⟩ := List.getElem_of_mem hx
  rw [e]; exact storeOk_rel hs hj
theorem namedIn_small {s : Storet} {n : ByteArray} (hs : smallStore s) : smallRel (namedIn s.rels n).1 := by
  unfold namedIn
  split
  · rename_i x hx
    exact (hs.2 x (List.mem_of_find?_eq_some hx)).2
  · exact ⟨by simp, by simp⟩
theorem deltaOk_two {d : Deltat} (h : deltaOk d = true) {k : Nat} (hk : k < d.changes.length) : two d.changes[k].plus d.changes[k].minus = true := by
  simp only [deltaOk, Bool.and_eq_true] at h
  have := everyB_get h.1 hk
  simp only [changeAt, Bool.and_eq_true] at this
  exact this.2.2.1
theorem apart_comm {a b : Relt} : apart a b = apart b a := by
  have h : ∀ {a b : Relt}, apart a b = true → apart b a = true := fun {a b} h => by
    rw [apart_iff] at h ⊢
    rw [List.length_eq_zero_iff, List.filter_eq_nil_iff] at h ⊢
    intro row hr hm
    simp only [hasRow, decide_eq_true_eq] at hm
    exact h row hm (by simp [hasRow, hr])
  cases h1 : apart a b
  · cases h2 : apart b a
    · rfl
    · rw [h h2] at h1; cases h1
  · rw [h h1]
def fitAt (s : Storet) (l : List Changet) (k : Nat) (h : k < l.length) : Bool :=
  (namedIn s.rels l[k].name).2 && (((namedIn s.rels l[k].name).1.arity == l[k].plus.arity) && (apart (namedIn s.rels l[k].name).1 l[k].plus && ((l[k].minus.rows.filter fun row => !hasRow (namedIn s.rels l[k].name).1.rows row).length == 0)))
def deltaFits (s : Storet) (d : Deltat) : Bool := storeOk s && (deltaOk d && everyB (fitAt s d.changes))
theorem fits_s {s : Storet} {d : Deltat} (h : storeOk s = false) : deltaFits s d = false := by simp [deltaFits, h]
theorem fits_d {s : Storet} {d : Deltat} (h : deltaOk d = false) : deltaFits s d = false := by simp [deltaFits, h]
theorem fits_bad {s : Storet} {d : Deltat} {k : Nat} (hk : k < d.changes.length) (h : fitAt s d.changes k hk = false) : deltaFits s d = false := by simp [deltaFits, everyB_bad hk h]
theorem fits_good {s : Storet} {d : Deltat} {k : Nat} (h1 : storeOk s = true) (h2 : deltaOk d = true) (h : AllAt (fitAt s d.changes) k) (hk : d.changes.length ≤ k) : deltaFits s d = true := by simp [deltaFits, h1, h2, h.all hk]
section
variable {s : Storet} {l : List Changet} {k : Nat} (hk : k < l.length)
theorem fitAt_no (h : (namedIn s.rels l[k].name).2 = false) : fitAt s l k hk = false := by simp [fitAt, h]
theorem fitAt_ar (h : ¬ (namedIn s.rels l[k].name).1.arity = l[k].plus.arity) : fitAt s l k hk = false := by simp [fitAt, h]
theorem fitAt_apart (h : apart (namedIn s.rels l[k].name).1 l[k].plus = false) : fitAt s l k hk = false := by simp [fitAt, h]
theorem fitAt_minus (h : 0 < (l[k].minus.rows.filter fun row => !hasRow (namedIn s.rels l[k].name).1.rows row).length) : fitAt s l k hk = false := by
  have : ((l[k].minus.rows.filter fun row => !hasRow (namedIn s.rels l[k].name).1.rows row).length == 0) = false := by rw [beq_eq_false_iff_ne]; omega
  simp only [fitAt, this, Bool.and_false]
theorem fitAt_yes (h1 : (namedIn s.rels l[k].name).2 = true) (h2 : (namedIn s.rels l[k].name).1.arity = l[k].plus.arity) (h3 : apart (namedIn s.rels l[k].name).1 l[k].plus = true) (h4 : (l[k].minus.rows.filter fun row => !hasRow (namedIn s.rels l[k].name).1.rows row).length = 0) : fitAt s l k hk = true := by
  have e2 : ((namedIn s.rels l[k].name).1.arity == l[k].plus.arity) = true := by simp [h2]
  have e4 : ((l[k].minus.rows.filter fun row => !hasRow (namedIn s.rels l[k].name).1.rows row).length == 0) = true := by rw [h4]; rfl
  unfold fitAt; rw [h1, e2, h3, e4]; rfl
end
end Go.Proofs.Ytibhoanjglfaoaa

/- The laws' marks: MarkA (printed by genmark.py) -/
namespace Go.Proofs.Ytibhoanjglfaoaa
open Go.RowKit
set_option linter.unusedVariables false
set_option linter.unusedSimpArgs false
set_option maxRecDepth 100000

def markValue (x : Val) (k : Int) : Val × Int := (⟨k, markText (k + 1)⟩, k + 1 + 1)
def cntValue (x : Val) : Nat := 1 + 1
theorem markValue_cnt (x : Val) (k : Int) : (markValue x k).2 = k + cntValue x := by
  simp only [markValue, cntValue]
  try omega
set_option maxHeartbeats 4000000 in
theorem markValueS_any (a : Option Addr) (n cap : Nat) (xs : List (Val)) (bs : List Nat) (k : Int) (lo : Nat) (w : World) (h : SliceRep valE w a n cap xs bs) (hF : Fresh lo w bs) (k0 : 0 ≤ k) (k1 : k + cntL cntValue xs ≤ 4611686018427387904) :
    Calls Try.prog 100 #[.slice a n cap, .int .i64 k] w fun e w' => e = .returned (.int .i64 (markL markValue xs k).2) ∧ SliceRep valE w' a n cap (markL markValue xs k).1 bs ∧ Only bs w w' := by
  have hmax := h.max
  obtain rfl := h.1
  go_enter Try.func100, Try.ntmps100
  go_wp2_with fail
  go_loopw [1, 5] (fun l i W => ∃ (j : Nat), j ≤ xs.length ∧ i = .int .i64 j ∧ l = .int .i64 (markK markValue xs k j) ∧ SliceRep valE W a xs.length cap (markTo markValue xs k j) bs ∧ Only bs w W) (fun _ i _ => xs.length - (intOf i).toNat)
  case atStart => exact ⟨0, Nat.zero_le _, rfl, by rw [markK_zero], by rw [markTo_zero]; exact h, Only.refl _ _⟩
  case round =>
    obtain ⟨j, hj, rfl, rfl, hS, hO⟩ := hrel
    by_cases hlt : j < xs.length
    · obtain ⟨g, off, _, _, rfl, _⟩ := h.get hlt
      have HF := hF.only hO
      obtain ⟨q0, q1⟩ := markK_bound markValue markValue_cnt k0 k1 hlt
      have hat := markTo_at markValue (k := k) hlt
      have HS := Lib.hid (markTo_succ markValue (k := k) hlt)
      have HK := Lib.hid (markK_succ markValue (k := k) hlt)
      have hl := markTo_len markValue xs k j
      have NJ := Lib.hid (show j + 1 ≤ xs.length by omega)
      have i0 : (0 : Int) ≤ (j : Int) := by omega
      have i1 : (j : Int) < (xs.length : Int) := by omega
      generalize markTo markValue xs k j = ys at hS hat HS hl
      generalize markK markValue xs k j = q at q0 q1 HS HK
      generalize xs[j] = x at hat HS HK q1
      rw [← set_same hat] at hS
      have hjy : j < ys.length := by omega
      clear hat
      have Q1 := Lib.hid q1
      simp only [cntValue] at q1
      obtain ⟨c0, d0⟩ := hS.cellAt2 HF hjy (c := 0) rfl
      obtain ⟨hS0, o0⟩ := hS.put2 HF hjy 0 (.int .i64 (q)) (⟨q, x.s⟩ : Val) rfl (wf64 (by omega) (by omega)) rfl
      simp only [show Enc.size valE = 2 from rfl, Nat.add_zero] at c0 d0 hS0 o0
      clear hS
      have hS := hS0
      clear hS0
      replace hO := hO.trans o0
      replace HF := HF.only o0
      clear o0
      go_wp2_with fail
      refine (markText_any _ _ (by omega)).mono ?_
      rintro e w1 ⟨rfl, hb⟩
      replace hS := hS.up hb
      replace hO := hO.trans (Only.below hb)
      replace HF := HF.up hb
      clear hb c0 d0
      obtain ⟨c1, d1⟩ := hS.cellAt2 HF hjy (c := 1) rfl
      obtain ⟨hS1, o1⟩ := hS.put2 HF hjy 1 (.string (markText (q + 1))) (⟨q, markText (q + 1)⟩ : Val) rfl (wfText (by omega)) rfl
      simp only [show Enc.size valE = 2 from rfl, Nat.add_zero] at c1 d1 hS1 o1
      clear hS
      have hS := hS1
      clear hS1
      replace hO := hO.trans o1
      replace HF := HF.only o1
      clear o1
      go_wp2_with fail
      go_roundw
      case rel => exact ⟨j + 1, NJ.out, by go_num, by rw [HK.out]; rfl, by rw [← HS.out]; exact hS, hO⟩
      case measure => simp [intOf]; omega
    · obtain rfl : j = xs.length := by omega
      rw [markTo_done] at hS
      go_wp2_with fail
      go_ret
      exact ⟨ret_int (markK_done _ _ _), hS, hO⟩

def markRow (x : List Val) (k : Int) : List Val × Int := ((markL markValue x (k)).1, (markL markValue x (k)).2)
def cntRow (x : List Val) : Nat := cntL cntValue x
theorem markRow_cnt (x : List Val) (k : Int) : (markRow x k).2 = k + cntRow x := by
  simp only [markRow, cntRow, markL_cnt markValue markValue_cnt]
  try omega
set_option maxHeartbeats 4000000 in
theorem markRowS_any (a : Option Addr) (n cap : Nat) (xs : List (List Val)) (bs : List Nat) (k : Int) (lo : Nat) (w : World) (h : SliceRep rowE w a n cap xs bs) (hF : Fresh lo w bs) (k0 : 0 ≤ k) (k1 : k + cntL cntRow xs ≤ 4611686018427387904) :
    Calls Try.prog 55 #[.slice a n cap, .int .i64 k] w fun e w' => e = .returned (.int .i64 (markL markRow xs k).2) ∧ SliceRep rowE w' a n cap (markL markRow xs k).1 bs ∧ Only bs w w' := by
  have hmax := h.max
  obtain rfl := h.1
  go_enter Try.func55, Try.ntmps55
  go_wp2_with fail
  go_loopw [1, 5] (fun l i W => ∃ (j : Nat), j ≤ xs.length ∧ i = .int .i64 j ∧ l = .int .i64 (markK markRow xs k j) ∧ SliceRep rowE W a xs.length cap (markTo markRow xs k j) bs ∧ Only bs w W) (fun _ i _ => xs.length - (intOf i).toNat)
  case atStart => exact ⟨0, Nat.zero_le _, rfl, by rw [markK_zero], by rw [markTo_zero]; exact h, Only.refl _ _⟩
  case round =>
    obtain ⟨j, hj, rfl, rfl, hS, hO⟩ := hrel
    by_cases hlt : j < xs.length
    · obtain ⟨g, off, _, _, rfl, _⟩ := h.get hlt
      have HF := hF.only hO
      obtain ⟨q0, q1⟩ := markK_bound markRow markRow_cnt k0 k1 hlt
      have hat := markTo_at markRow (k := k) hlt
      have HS := Lib.hid (markTo_succ markRow (k := k) hlt)
      have HK := Lib.hid (markK_succ markRow (k := k) hlt)
      have hl := markTo_len markRow xs k j
      have NJ := Lib.hid (show j + 1 ≤ xs.length by omega)
      have i0 : (0 : Int) ≤ (j : Int) := by omega
      have i1 : (j : Int) < (xs.length : Int) := by omega
      generalize markTo markRow xs k j = ys at hS hat HS hl
      generalize markK markRow xs k j = q at q0 q1 HS HK
      generalize xs[j] = x at hat HS HK q1
      rw [← set_same hat] at hS
      have hjy : j < ys.length := by omega
      clear hat
      have Q1 := Lib.hid q1
      simp only [cntRow] at q1
      obtain ⟨a0, n0, p0, b0, c0, r0, F0, next0⟩ := hS.nest2 HF hjy (c := 0) rfl
      simp only [show Enc.size rowE = 1 from rfl, Nat.mul_one, Nat.add_zero] at c0
      go_wp2_with fail
      refine (markValueS_any _ _ _ _ _ _ lo _ r0 F0 (by omega) (by omega)).mono ?_
      rintro e w0 ⟨rfl, rr, oo⟩
      obtain ⟨hS0, o0⟩ := next0 w0 _ ((markL markValue x (q)).1 : List Val) rr oo rfl
      have v0 := markL_cnt markValue markValue_cnt x (q)
      have y0 : 0 ≤ (markL markValue x (q)).2 := by omega
      have z0 : (markL markValue x (q)).2 + ((0 : Nat) : Int) ≤ 4611686018427387904 := by omega
      clear hS
      have hS := hS0
      replace hO := hO.trans o0
      replace HF := HF.only o0
      clear hS0 o0 rr oo r0 F0 next0 v0 c0
      go_wp2_with fail
      go_roundw
      case rel => exact ⟨j + 1, NJ.out, by go_num, by rw [HK.out]; rfl, by rw [← HS.out]; exact hS, hO⟩
      case measure => simp [intOf]; omega
    · obtain rfl : j = xs.length := by omega
      rw [markTo_done] at hS
      go_wp2_with fail
      go_ret
      exact ⟨ret_int (markK_done _ _ _), hS, hO⟩

def markDRow (x : List Val) (k : Int) : List Val × Int := ((markL markValue x (k)).1, (markL markValue x (k)).2)
def cntDRow (x : List Val) : Nat := cntL cntValue x
theorem markDRow_cnt (x : List Val) (k : Int) : (markDRow x k).2 = k + cntDRow x := by
  simp only [markDRow, cntDRow, markL_cnt markValue markValue_cnt]
  try omega
def markDRel (x : Relt) (k : Int) : Relt × Int := (⟨x.arity, (markL markRow x.rows (k)).1⟩, (markL markRow x.rows (k)).2)
def cntDRel (x : Relt) : Nat := cntL cntRow x.rows
theorem markDRel_cnt (x : Relt) (k : Int) : (markDRel x k).2 = k + cntDRel x := by
  simp only [markDRel, cntDRel, markL_cnt markRow markRow_cnt]
  try omega
set_option maxHeartbeats 4000000 in
theorem markDRel_any (cs : List Value) (x : Relt) (bs : List Nat) (k : Int) (lo : Nat) (w : World) (h : relE.rep w cs x bs) (hF : Fresh lo w bs) (k0 : 0 ≤ k) (k1 : k + cntDRel x ≤ 4611686018427387904) :
    Calls Try.prog 17 #[.agg cs.toArray, .int .i64 k] w fun e w' => e = .returned (.int .i64 (markDRel x k).2) ∧ relE.rep w' cs (markDRel x k).1 bs ∧ Only bs w w' := by
  have hr := h
  have hlt := relE.lt h
  obtain ⟨sa0, sn0, sc0, sb0, hcs, _, _, _⟩ := Rel_rep.1 h
  subst hcs
  clear h
  simp only [cntDRel] at k1
  have H := ((Held.start w).box_ #[.int .i64 x.arity, .slice sa0 sn0 sc0] 28)
  have hal := (Below.refl w.heap.size w).alloc (Nat.le_refl _) (.cells #[.int .i64 x.arity, .slice sa0 sn0 sc0] 28)
  have H2 := H.s1
  have bx0 := H2.2 0
  have bx1 := H2.2 1
  replace hr := relE.up hr hal
  replace hF := hF.up hal
  have hO : Only bs w _ := Only.below hal
  clear hal H H2
  go_enter Try.func17, Try.ntmps17
  obtain ⟨a0, n0, p0, b0, e0, r0, F0, next0⟩ := Enc.nest hr hF (c := 1) rfl
  simp only [List.getElem?_cons_zero, List.getElem?_cons_succ, Option.some.injEq, Value.slice.injEq] at e0
  obtain ⟨rfl, rfl, rfl⟩ := e0
  go_wp2_with fail
  refine (markRowS_any _ _ _ _ _ _ lo _ r0 F0 (by omega) (by omega)).mono ?_
  rintro e w1 ⟨rfl, rr, oo⟩
  obtain ⟨hr0, o0⟩ := next0 w1 _ (⟨x.arity, (markL markRow x.rows (k)).1⟩ : Relt) rr oo rfl
  clear hr
  have hr := hr0
  replace hO := hO.trans o0
  replace hF := hF.only o0
  clear hr0 o0 rr oo r0 F0 next0
  go_wp2_with fail
  go_ret
  exact ⟨rfl, hr, hO⟩

end Go.Proofs.Ytibhoanjglfaoaa

/- The laws' marks: MarkB (printed by genmark.py) -/
namespace Go.Proofs.Ytibhoanjglfaoaa
open Go.RowKit
set_option linter.unusedVariables false
set_option linter.unusedSimpArgs false
set_option maxRecDepth 100000

def markNamed (x : Namedt) (k : Int) : Namedt × Int := (⟨markText (k), ⟨k + 1, (markL markRow x.rel.rows (k + 1 + 1)).1⟩⟩, (markL markRow x.rel.rows (k + 1 + 1)).2)
def cntNamed (x : Namedt) : Nat := 1 + 1 + cntL cntRow x.rel.rows
theorem markNamed_cnt (x : Namedt) (k : Int) : (markNamed x k).2 = k + cntNamed x := by
  simp only [markNamed, cntNamed, markL_cnt markRow markRow_cnt]
  try omega
set_option maxHeartbeats 4000000 in
theorem markNamedS_any (a : Option Addr) (n cap : Nat) (xs : List (Namedt)) (bs : List Nat) (k : Int) (lo : Nat) (w : World) (h : SliceRep namedE w a n cap xs bs) (hF : Fresh lo w bs) (k0 : 0 ≤ k) (k1 : k + cntL cntNamed xs ≤ 4611686018427387904) :
    Calls Try.prog 54 #[.slice a n cap, .int .i64 k] w fun e w' => e = .returned (.int .i64 (markL markNamed xs k).2) ∧ SliceRep namedE w' a n cap (markL markNamed xs k).1 bs ∧ Only bs w w' := by
  have hmax := h.max
  obtain rfl := h.1
  go_enter Try.func54, Try.ntmps54
  go_wp2_with fail
  go_loopw [1, 5] (fun l i W => ∃ (j : Nat), j ≤ xs.length ∧ i = .int .i64 j ∧ l = .int .i64 (markK markNamed xs k j) ∧ SliceRep namedE W a xs.length cap (markTo markNamed xs k j) bs ∧ Only bs w W) (fun _ i _ => xs.length - (intOf i).toNat)
  case atStart => exact ⟨0, Nat.zero_le _, rfl, by rw [markK_zero], by rw [markTo_zero]; exact h, Only.refl _ _⟩
  case round =>
    obtain ⟨j, hj, rfl, rfl, hS, hO⟩ := hrel
    by_cases hlt : j < xs.length
    · obtain ⟨g, off, _, _, rfl, _⟩ := h.get hlt
      have HF := hF.only hO
      obtain ⟨q0, q1⟩ := markK_bound markNamed markNamed_cnt k0 k1 hlt
      have hat := markTo_at markNamed (k := k) hlt
      have HS := Lib.hid (markTo_succ markNamed (k := k) hlt)
      have HK := Lib.hid (markK_succ markNamed (k := k) hlt)
      have hl := markTo_len markNamed xs k j
      have NJ := Lib.hid (show j + 1 ≤ xs.length by omega)
      have i0 : (0 : Int) ≤ (j : Int) := by omega
      have i1 : (j : Int) < (xs.length : Int) := by omega
      generalize markTo markNamed xs k j = ys at hS hat HS hl
      generalize markK markNamed xs k j = q at q0 q1 HS HK
      generalize xs[j] = x at hat HS HK q1
      rw [← set_same hat] at hS
      have hjy : j < ys.length := by omega
      clear hat
      have Q1 := Lib.hid q1
      simp only [cntNamed] at q1
      go_wp2_with fail
      refine (markText_any _ _ (by omega)).mono ?_
      rintro e w0 ⟨rfl, hb⟩
      replace hS := hS.up hb
      replace hO := hO.trans (Only.below hb)
      replace HF := HF.up hb
      clear hb 
      obtain ⟨c0, d0⟩ := hS.cellAt2 HF hjy (c := 0) rfl
      obtain ⟨hS0, o0⟩ := hS.put2 HF hjy 0 (.string (markText (q))) (⟨markText (q), ⟨x.rel.arity, x.rel.rows⟩⟩ : Namedt) rfl (wfText (by omega)) rfl
      simp only [show Enc.size namedE = 3 from rfl, Nat.add_zero] at c0 d0 hS0 o0
      clear hS
      have hS := hS0
      clear hS0
      replace hO := hO.trans o0
      replace HF := HF.only o0
      clear o0
      obtain ⟨c1, d1⟩ := hS.cellAt2 HF hjy (c := 1) rfl
      obtain ⟨hS1, o1⟩ := hS.put2 HF hjy 1 (.int .i64 (q + 1)) (⟨markText (q), ⟨q + 1, x.rel.rows⟩⟩ : Namedt) rfl (wf64 (by omega) (by omega)) rfl
      simp only [show Enc.size namedE = 3 from rfl, Nat.add_zero] at c1 d1 hS1 o1
      clear hS
      have hS := hS1
      clear hS1
      replace hO := hO.trans o1
      replace HF := HF.only o1
      clear o1
      obtain ⟨a2, n2, p2, b2, c2, r2, F2, next2⟩ := hS.nest2 HF hjy (c := 2) rfl
      simp only [show Enc.size namedE = 3 from rfl, Nat.add_zero] at c2
      go_wp2_with fail
      refine (markRowS_any _ _ _ _ _ _ lo _ r2 F2 (by omega) (by omega)).mono ?_
      rintro e w2 ⟨rfl, rr, oo⟩
      obtain ⟨hS2, o2⟩ := next2 w2 _ (⟨markText (q), ⟨q + 1, (markL markRow x.rel.rows (q + 1 + 1)).1⟩⟩ : Namedt) rr oo rfl
      have v2 := markL_cnt markRow markRow_cnt x.rel.rows (q + 1 + 1)
      have y2 : 0 ≤ (markL markRow x.rel.rows (q + 1 + 1)).2 := by omega
      have z2 : (markL markRow x.rel.rows (q + 1 + 1)).2 + ((0 : Nat) : Int) ≤ 4611686018427387904 := by omega
      clear hS
      have hS := hS2
      replace hO := hO.trans o2
      replace HF := HF.only o2
      clear hS2 o2 rr oo r2 F2 next2 v2 c0 d0 c1 d1 c2
      go_wp2_with fail
      go_roundw
      case rel => exact ⟨j + 1, NJ.out, by go_num, by rw [HK.out]; rfl, by rw [← HS.out]; exact hS, hO⟩
      case measure => simp [intOf]; omega
    · obtain rfl : j = xs.length := by omega
      rw [markTo_done] at hS
      go_wp2_with fail
      go_ret
      exact ⟨ret_int (markK_done _ _ _), hS, hO⟩

def markDStore (x : Storet) (k : Int) : Storet × Int := (⟨(markL markNamed x.rels (k)).1⟩, (markL markNamed x.rels (k)).2)
def cntDStore (x : Storet) : Nat := cntL cntNamed x.rels
theorem markDStore_cnt (x : Storet) (k : Int) : (markDStore x k).2 = k + cntDStore x := by
  simp only [markDStore, cntDStore, markL_cnt markNamed markNamed_cnt]
  try omega
set_option maxHeartbeats 4000000 in
theorem markDStore_any (cs : List Value) (x : Storet) (bs : List Nat) (k : Int) (lo : Nat) (w : World) (h : storeE.rep w cs x bs) (hF : Fresh lo w bs) (k0 : 0 ≤ k) (k1 : k + cntDStore x ≤ 4611686018427387904) :
    Calls Try.prog 16 #[.agg cs.toArray, .int .i64 k] w fun e w' => e = .returned (.int .i64 (markDStore x k).2) ∧ storeE.rep w' cs (markDStore x k).1 bs ∧ Only bs w w' := by
  have hr := h
  have hlt := storeE.lt h
  obtain ⟨sa0, sn0, sc0, sb0, hcs, _, _⟩ := Store_rep.1 h
  subst hcs
  clear h
  simp only [cntDStore] at k1
  have H := ((Held.start w).box_ #[.slice sa0 sn0 sc0] 33)
  have hal := (Below.refl w.heap.size w).alloc (Nat.le_refl _) (.cells #[.slice sa0 sn0 sc0] 33)
  have H2 := H.s1
  have bx0 := H2.2 0
  replace hr := storeE.up hr hal
  replace hF := hF.up hal
  have hO : Only bs w _ := Only.below hal
  clear hal H H2
  go_enter Try.func16, Try.ntmps16
  obtain ⟨a0, n0, p0, b0, e0, r0, F0, next0⟩ := Enc.nest hr hF (c := 0) rfl
  simp only [List.getElem?_cons_zero, List.getElem?_cons_succ, Option.some.injEq, Value.slice.injEq] at e0
  obtain ⟨rfl, rfl, rfl⟩ := e0
  go_wp2_with fail
  refine (markNamedS_any _ _ _ _ _ _ lo _ r0 F0 (by omega) (by omega)).mono ?_
  rintro e w1 ⟨rfl, rr, oo⟩
  obtain ⟨hr0, o0⟩ := next0 w1 _ (⟨(markL markNamed x.rels (k)).1⟩ : Storet) rr oo rfl
  clear hr
  have hr := hr0
  replace hO := hO.trans o0
  replace hF := hF.only o0
  clear hr0 o0 rr oo r0 F0 next0
  go_wp2_with fail
  go_ret
  exact ⟨rfl, hr, hO⟩

end Go.Proofs.Ytibhoanjglfaoaa

/- The laws' marks: MarkC (printed by genmark.py) -/
namespace Go.Proofs.Ytibhoanjglfaoaa
open Go.RowKit
set_option linter.unusedVariables false
set_option linter.unusedSimpArgs false
set_option maxRecDepth 100000

def markChange (x : Changet) (k : Int) : Changet × Int := (⟨markText (k), ⟨k + 1, (markL markRow x.plus.rows (k + 1 + 1)).1⟩, ⟨(markL markRow x.plus.rows (k + 1 + 1)).2, (markL markRow x.minus.rows ((markL markRow x.plus.rows (k + 1 + 1)).2 + 1)).1⟩⟩, (markL markRow x.minus.rows ((markL markRow x.plus.rows (k + 1 + 1)).2 + 1)).2)
def cntChange (x : Changet) : Nat := 1 + 1 + cntL cntRow x.plus.rows + 1 + cntL cntRow x.minus.rows
theorem markChange_cnt (x : Changet) (k : Int) : (markChange x k).2 = k + cntChange x := by
  simp only [markChange, cntChange, markL_cnt markRow markRow_cnt, markL_cnt markRow markRow_cnt]
  try omega
set_option maxHeartbeats 4000000 in
theorem markChangeS_any (a : Option Addr) (n cap : Nat) (xs : List (Changet)) (bs : List Nat) (k : Int) (lo : Nat) (w : World) (h : SliceRep changeE w a n cap xs bs) (hF : Fresh lo w bs) (k0 : 0 ≤ k) (k1 : k + cntL cntChange xs ≤ 4611686018427387904) :
    Calls Try.prog 89 #[.slice a n cap, .int .i64 k] w fun e w' => e = .returned (.int .i64 (markL markChange xs k).2) ∧ SliceRep changeE w' a n cap (markL markChange xs k).1 bs ∧ Only bs w w' := by
  have hmax := h.max
  obtain rfl := h.1
  go_enter Try.func89, Try.ntmps89
  go_wp2_with fail
  go_loopw [1, 5] (fun l i W => ∃ (j : Nat), j ≤ xs.length ∧ i = .int .i64 j ∧ l = .int .i64 (markK markChange xs k j) ∧ SliceRep changeE W a xs.length cap (markTo markChange xs k j) bs ∧ Only bs w W) (fun _ i _ => xs.length - (intOf i).toNat)
  case atStart => exact ⟨0, Nat.zero_le _, rfl, by rw [markK_zero], by rw [markTo_zero]; exact h, Only.refl _ _⟩
  case round =>
    obtain ⟨j, hj, rfl, rfl, hS, hO⟩ := hrel
    by_cases hlt : j < xs.length
    · obtain ⟨g, off, _, _, rfl, _⟩ := h.get hlt
      have HF := hF.only hO
      obtain ⟨q0, q1⟩ := markK_bound markChange markChange_cnt k0 k1 hlt
      have hat := markTo_at markChange (k := k) hlt
      have HS := Lib.hid (markTo_succ markChange (k := k) hlt)
      have HK := Lib.hid (markK_succ markChange (k := k) hlt)
      have hl := markTo_len markChange xs k j
      have NJ := Lib.hid (show j + 1 ≤ xs.length by omega)
      have i0 : (0 : Int) ≤ (j : Int) := by omega
      have i1 : (j : Int) < (xs.length : Int) := by omega
      generalize markTo markChange xs k j = ys at hS hat HS hl
      generalize markK markChange xs k j = q at q0 q1 HS HK
      generalize xs[j] = x at hat HS HK q1
      rw [← set_same hat] at hS
      have hjy : j < ys.length := by omega
      clear hat
      have Q1 := Lib.hid q1
      simp only [cntChange] at q1
      go_wp2_with fail
      refine (markText_any _ _ (by omega)).mono ?_
      rintro e w0 ⟨rfl, hb⟩
      replace hS := hS.up hb
      replace hO := hO.trans (Only.below hb)
      replace HF := HF.up hb
      clear hb 
      obtain ⟨c0, d0⟩ := hS.cellAt2 HF hjy (c := 0) rfl
      obtain ⟨hS0, o0⟩ := hS.put2 HF hjy 0 (.string (markText (q))) (⟨markText (q), ⟨x.plus.arity, x.plus.rows⟩, ⟨x.minus.arity, x.minus.rows⟩⟩ : Changet) rfl (wfText (by omega)) rfl
      simp only [show Enc.size changeE = 5 from rfl, Nat.add_zero] at c0 d0 hS0 o0
      clear hS
      have hS := hS0
      clear hS0
      replace hO := hO.trans o0
      replace HF := HF.only o0
      clear o0
      obtain ⟨c1, d1⟩ := hS.cellAt2 HF hjy (c := 1) rfl
      obtain ⟨hS1, o1⟩ := hS.put2 HF hjy 1 (.int .i64 (q + 1)) (⟨markText (q), ⟨q + 1, x.plus.rows⟩, ⟨x.minus.arity, x.minus.rows⟩⟩ : Changet) rfl (wf64 (by omega) (by omega)) rfl
      simp only [show Enc.size changeE = 5 from rfl, Nat.add_zero] at c1 d1 hS1 o1
      clear hS
      have hS := hS1
      clear hS1
      replace hO := hO.trans o1
      replace HF := HF.only o1
      clear o1
      obtain ⟨a2, n2, p2, b2, c2, r2, F2, next2⟩ := hS.nest2 HF hjy (c := 2) rfl
      simp only [show Enc.size changeE = 5 from rfl, Nat.add_zero] at c2
      go_wp2_with fail
      refine (markRowS_any _ _ _ _ _ _ lo _ r2 F2 (by omega) (by omega)).mono ?_
      rintro e w2 ⟨rfl, rr, oo⟩
      obtain ⟨hS2, o2⟩ := next2 w2 _ (⟨markText (q), ⟨q + 1, (markL markRow x.plus.rows (q + 1 + 1)).1⟩, ⟨x.minus.arity, x.minus.rows⟩⟩ : Changet) rr oo rfl
      have v2 := markL_cnt markRow markRow_cnt x.plus.rows (q + 1 + 1)
      have y2 : 0 ≤ (markL markRow x.plus.rows (q + 1 + 1)).2 := by omega
      have z2 : (markL markRow x.plus.rows (q + 1 + 1)).2 + ((1 + cntL cntRow x.minus.rows : Nat) : Int) ≤ 4611686018427387904 := by omega
      clear hS
      have hS := hS2
      replace hO := hO.trans o2
      replace HF := HF.only o2
      clear hS2 o2 rr oo r2 F2 next2 v2 c0 d0 c1 d1 c2
      obtain ⟨c3, d3⟩ := hS.cellAt2 HF hjy (c := 3) rfl
      obtain ⟨hS3, o3⟩ := hS.put2 HF hjy 3 (.int .i64 ((markL markRow x.plus.rows (q + 1 + 1)).2)) (⟨markText (q), ⟨q + 1, (markL markRow x.plus.rows (q + 1 + 1)).1⟩, ⟨(markL markRow x.plus.rows (q + 1 + 1)).2, x.minus.rows⟩⟩ : Changet) rfl (wf64 (by omega) (by omega)) rfl
      simp only [show Enc.size changeE = 5 from rfl, Nat.add_zero] at c3 d3 hS3 o3
      clear hS
      have hS := hS3
      clear hS3
      replace hO := hO.trans o3
      replace HF := HF.only o3
      clear o3
      obtain ⟨a4, n4, p4, b4, c4, r4, F4, next4⟩ := hS.nest2 HF hjy (c := 4) rfl
      simp only [show Enc.size changeE = 5 from rfl, Nat.add_zero] at c4
      go_wp2_with fail
      refine (markRowS_any _ _ _ _ _ _ lo _ r4 F4 (by omega) (by omega)).mono ?_
      rintro e w4 ⟨rfl, rr, oo⟩
      obtain ⟨hS4, o4⟩ := next4 w4 _ (⟨markText (q), ⟨q + 1, (markL markRow x.plus.rows (q + 1 + 1)).1⟩, ⟨(markL markRow x.plus.rows (q + 1 + 1)).2, (markL markRow x.minus.rows ((markL markRow x.plus.rows (q + 1 + 1)).2 + 1)).1⟩⟩ : Changet) rr oo rfl
      have v4 := markL_cnt markRow markRow_cnt x.minus.rows ((markL markRow x.plus.rows (q + 1 + 1)).2 + 1)
      have y4 : 0 ≤ (markL markRow x.minus.rows ((markL markRow x.plus.rows (q + 1 + 1)).2 + 1)).2 := by omega
      have z4 : (markL markRow x.minus.rows ((markL markRow x.plus.rows (q + 1 + 1)).2 + 1)).2 + ((0 : Nat) : Int) ≤ 4611686018427387904 := by omega
      clear hS
      have hS := hS4
      replace hO := hO.trans o4
      replace HF := HF.only o4
      clear hS4 o4 rr oo r4 F4 next4 v4 c3 d3 c4
      go_wp2_with fail
      go_roundw
      case rel => exact ⟨j + 1, NJ.out, by go_num, by rw [HK.out]; rfl, by rw [← HS.out]; exact hS, hO⟩
      case measure => simp [intOf]; omega
    · obtain rfl : j = xs.length := by omega
      rw [markTo_done] at hS
      go_wp2_with fail
      go_ret
      exact ⟨ret_int (markK_done _ _ _), hS, hO⟩

def markDDelta (x : Deltat) (k : Int) : Deltat × Int := (⟨(markL markChange x.changes (k)).1⟩, (markL markChange x.changes (k)).2)
def cntDDelta (x : Deltat) : Nat := cntL cntChange x.changes
theorem markDDelta_cnt (x : Deltat) (k : Int) : (markDDelta x k).2 = k + cntDDelta x := by
  simp only [markDDelta, cntDDelta, markL_cnt markChange markChange_cnt]
  try omega
set_option maxHeartbeats 4000000 in
theorem markDDelta_any (cs : List Value) (x : Deltat) (bs : List Nat) (k : Int) (lo : Nat) (w : World) (h : deltaE.rep w cs x bs) (hF : Fresh lo w bs) (k0 : 0 ≤ k) (k1 : k + cntDDelta x ≤ 4611686018427387904) :
    Calls Try.prog 40 #[.agg cs.toArray, .int .i64 k] w fun e w' => e = .returned (.int .i64 (markDDelta x k).2) ∧ deltaE.rep w' cs (markDDelta x k).1 bs ∧ Only bs w w' := by
  have hr := h
  have hlt := deltaE.lt h
  obtain ⟨sa0, sn0, sc0, sb0, hcs, _, _⟩ := Delta_rep.1 h
  subst hcs
  clear h
  simp only [cntDDelta] at k1
  have H := ((Held.start w).box_ #[.slice sa0 sn0 sc0] 65)
  have hal := (Below.refl w.heap.size w).alloc (Nat.le_refl _) (.cells #[.slice sa0 sn0 sc0] 65)
  have H2 := H.s1
  have bx0 := H2.2 0
  replace hr := deltaE.up hr hal
  replace hF := hF.up hal
  have hO : Only bs w _ := Only.below hal
  clear hal H H2
  go_enter Try.func40, Try.ntmps40
  obtain ⟨a0, n0, p0, b0, e0, r0, F0, next0⟩ := Enc.nest hr hF (c := 0) rfl
  simp only [List.getElem?_cons_zero, List.getElem?_cons_succ, Option.some.injEq, Value.slice.injEq] at e0
  obtain ⟨rfl, rfl, rfl⟩ := e0
  go_wp2_with fail
  refine (markChangeS_any _ _ _ _ _ _ lo _ r0 F0 (by omega) (by omega)).mono ?_
  rintro e w1 ⟨rfl, rr, oo⟩
  obtain ⟨hr0, o0⟩ := next0 w1 _ (⟨(markL markChange x.changes (k)).1⟩ : Deltat) rr oo rfl
  clear hr
  have hr := hr0
  replace hO := hO.trans o0
  replace hF := hF.only o0
  clear hr0 o0 rr oo r0 F0 next0
  go_wp2_with fail
  go_ret
  exact ⟨rfl, hr, hO⟩

end Go.Proofs.Ytibhoanjglfaoaa

/- Plain laws on relations that are copied, marked, counted. -/
namespace Go.Proofs.Ytibhoanjglfaoaa
open Go.RowKit
set_option linter.unusedVariables false

theorem totL_len {α : Type} {c : α → Nat} {xs : List α} {M : Nat} (h : totL c xs ≤ M) : xs.length ≤ M := by unfold totL at h; omega
theorem totL_mem {α : Type} {c : α → Nat} {xs : List α} {M : Nat} (h : totL c xs ≤ M) {x : α} (hx : x ∈ xs) : c x ≤ M := by
  have := cntL_mem (c := c) hx
  unfold totL at h; omega
theorem totRow_small {r : List Val} (h : totRow r ≤ 1048576) : smallRow r := ⟨totL_len h, fun v hv => totL_mem (c := totValue) h hv⟩
theorem totRel_small {r : Relt} (h : totRel r ≤ 1048576) : smallRel r := ⟨totL_len h, fun x hx => totRow_small (totL_mem (c := totRow) h hx)⟩
theorem cntRow_le {r : List Val} (h : smallRow r) : cntRow r ≤ 2097152 := by
  have := cntL_le (c := cntValue) (M := 2) (xs := r) fun x _ => by simp [cntValue]
  have := h.1
  simp only [cntRow]; omega
theorem cntRel_le {r : Relt} (h : smallRel r) : cntDRel r ≤ 1152921504606846976 := by
  have := cntL_le (c := cntRow) (M := 2097152) (xs := r.rows) fun x hx => cntRow_le (h.2 x hx)
  have := h.1
  simp only [cntDRel]; omega
theorem small_filter {a : Relt} (p : List Val → Bool) (n : Int) (h : smallRel a) : smallRel ⟨n, a.rows.filter p⟩ :=
  ⟨Nat.le_trans (List.length_filter_le _ _) h.1, fun x hx => h.2 x (List.mem_filter.1 hx).1⟩
theorem small_none {n : Int} : smallRel ⟨n, []⟩ := ⟨by simp, fun x hx => by cases hx⟩
theorem relBoth_small {a b : Relt} (ha : smallRel a) (hb : smallRel b) : smallRel (relBoth a b).1 := by
  unfold relBoth; split
  · exact small_filter _ _ ha
  · exact small_none
theorem relMinus_small {a b : Relt} (ha : smallRel a) (hb : smallRel b) : smallRel (relMinus a b).1 := by
  unfold relMinus; split
  · exact small_filter _ _ ha
  · exact small_none
end Go.Proofs.Ytibhoanjglfaoaa

/- Copies of relations, deltas turned back, deltas between stores, in plain words. -/
namespace Go.Proofs.Ytibhoanjglfaoaa
open Go.RowKit
set_option linter.unusedVariables false

theorem take_more {α : Type} {xs : List α} {k : Nat} (hk : k < xs.length) : xs.take k ++ [xs[k]] = xs.take (k + 1) := (List.take_succ_eq_append_getElem hk).symm
theorem take_none {α : Type} {xs : List α} : ([] : List α) = xs.take 0 := rfl
def mapTo {α β : Type} (f : α → β) (xs : List α) (k : Nat) : List β := (xs.take k).map f
theorem mapTo_zero {α β : Type} {f : α → β} {xs : List α} : ([] : List β) = mapTo f xs 0 := rfl
theorem mapTo_more {α β : Type} {f : α → β} {xs : List α} {k : Nat} (hk : k < xs.length) : mapTo f xs k ++ [f xs[k]] = mapTo f xs (k + 1) := by
  unfold mapTo; rw [List.take_succ_eq_append_getElem hk, List.map_append]; rfl
theorem mapTo_all {α β : Type} {f : α → β} {xs : List α} {k : Nat} (hk : xs.length ≤ k) : mapTo f xs k = xs.map f := by unfold mapTo; rw [List.take_of_length_le hk]
theorem mapTo_len {α β : Type} {f : α → β} {xs : List α} {k : Nat} : (mapTo f xs k).length ≤ xs.length := by simp [mapTo]; omega

theorem cntL_tot {α : Type} {c t : α → Nat} {u v : Nat} (h : ∀ x, c x ≤ u + v * t x) : ∀ xs : List α, cntL c xs ≤ u * xs.length + v * cntL t xs
  | [] => by simp [cntL]
  | x :: xs => by
    have h1 := h x
    have h2 := cntL_tot h xs
    simp only [cntL, List.length_cons, Nat.mul_add, Nat.mul_one]
    omega
theorem cntRow_tot (r : List Val) : cntRow r ≤ 0 + 2 * totRow r := by
  have := cntL_tot (c := cntValue) (t := totValue) (u := 2) (v := 0) (fun x => by simp [cntValue]) r
  simp only [cntRow, totRow, totL]; omega
theorem cntRows_tot (r : Relt) : cntL cntRow r.rows ≤ 2 * totRel r := by
  have := cntL_tot cntRow_tot r.rows
  simp only [totRel, totL]; omega
theorem cntNamed_tot (x : Namedt) : cntNamed x ≤ 2 + 2 * totNamed x := by
  have := cntRows_tot x.rel
  simp only [cntNamed, totNamed]; omega
theorem cntStore_tot (s : Storet) : cntDStore s ≤ 2 * totStore s := by
  have := cntL_tot cntNamed_tot s.rels
  simp only [cntDStore, totStore, totL]; omega
theorem cntStore_le {s : Storet} (h : totStore s ≤ 1048576) : cntDStore s ≤ 1152921504606846976 := by have := cntStore_tot s; omega
theorem cntChange_tot (x : Changet) : cntChange x ≤ 3 + 3 * totChange x := by
  have := cntRows_tot x.plus
  have := cntRows_tot x.minus
  simp only [cntChange, totChange]; omega
theorem cntDelta_tot (s : Deltat) : cntDDelta s ≤ 3 * totDelta s := by
  have := cntL_tot cntChange_tot s.changes
  simp only [cntDDelta, totDelta, totL]; omega
theorem cntDelta_le {s : Deltat} (h : totDelta s ≤ 1048576) : cntDDelta s ≤ 1152921504606846976 := by have := cntDelta_tot s; omega
theorem totNamed_small {x : Namedt} (h : totNamed x ≤ 1048576) : smallNamed x := by
  simp only [totNamed] at h
  exact ⟨by omega, totRel_small (by omega)⟩
theorem totStore_small {s : Storet} (h : totStore s ≤ 1048576) : smallStore s := ⟨totL_len h, fun x hx => totNamed_small (totL_mem (c := totNamed) h hx)⟩
theorem totChange_small {x : Changet} (h : totChange x ≤ 1048576) : smallChange x := by
  simp only [totChange] at h
  exact ⟨by omega, totRel_small (by omega), totRel_small (by omega)⟩
theorem totDelta_small {s : Deltat} (h : totDelta s ≤ 1048576) : smallDelta s := ⟨totL_len h, fun x hx => totChange_small (totL_mem (c := totChange) h hx)⟩

/-- The relation of a name in a store that is well formed. -/
def storeRel (s : Storet) (n : ByteArray) : Relt × Bool := if storeOk s = true then namedIn s.rels n else (⟨0, []⟩, false)
theorem storeRel_ok {s : Storet} {n : ByteArray} (h : storeOk s = true) : storeRel s n = namedIn s.rels n := by simp [storeRel, h]
theorem storeRel_no {s : Storet} {n : ByteArray} (h : storeOk s = false) : storeRel s n = (⟨0, []⟩, false) := by simp [storeRel, h]
theorem namedIn_miss {l : List Namedt} {n : ByteArray} (h : (namedIn l n).2 = false) : namedIn l n = (⟨0, []⟩, false) := by
  unfold namedIn at h ⊢; split
  · rename_i x hx; rw [hx] at h; cases h
  · rfl
theorem storeRel_miss {s : Storet} {n : ByteArray} (h : storeOk s = false ∨ (namedIn s.rels n).2 = false) : storeRel s n = (⟨0, []⟩, false) := by
  rcases h with h | h
  · exact storeRel_no h
  · unfold storeRel; split
    · exact namedIn_miss h
    · rfl
theorem storeRel_small {s : Storet} {n : ByteArray} (hs : smallStore s) : smallRel (storeRel s n).1 := by
  unfold storeRel; split
  · exact namedIn_small hs
  · exact small_none

def backChange (c : Changet) : Changet := ⟨c.name, c.minus, c.plus⟩
def deltaBack (d : Deltat) : Deltat := if deltaOk d = true then ⟨d.changes.map backChange⟩ else ⟨[]⟩
theorem deltaBack_ok {d : Deltat} (h : deltaOk d = true) : deltaBack d = ⟨d.changes.map backChange⟩ := by simp [deltaBack, h]
theorem deltaBack_no {d : Deltat} (h : deltaOk d = false) : deltaBack d = ⟨[]⟩ := by simp [deltaBack, h]
theorem totBack (l : List Changet) : cntL totChange (l.map backChange) = cntL totChange l := by
  induction l with
  | nil => rfl
  | cons x xs ih => simp only [List.map_cons, cntL, ih, totChange, backChange]; omega
theorem deltaBack_tot {d : Deltat} (h : totDelta d ≤ 1048576) : totDelta (deltaBack d) ≤ 1048576 := by
  unfold deltaBack; split
  · simp only [totDelta, totL, totBack, List.length_map] at *; exact h
  · simp [totDelta, totL, cntL]

/-- What changes between two relations of a name. -/
def ofAt (x y : Namedt) : Changet := ⟨x.name, ⟨y.rel.arity, y.rel.rows.filter fun r => !hasRow x.rel.rows r⟩, ⟨x.rel.arity, x.rel.rows.filter fun r => !hasRow y.rel.rows r⟩⟩
def someRows (c : Changet) : Bool := decide (0 < c.plus.rows.length + c.minus.rows.length)
def ofTo (a b : List Namedt) (k : Nat) : List Changet := filtTo someRows (List.zipWith ofAt a b) k
theorem ofTo_zero {a b : List Namedt} : ([] : List Changet) = ofTo a b 0 := rfl
theorem ofTo_yes {a b : List Namedt} {k : Nat} (ha : k < a.length) (hb : k < b.length) (h : 0 < (ofAt a[k] b[k]).plus.rows.length + (ofAt a[k] b[k]).minus.rows.length) : ofTo a b k ++ [ofAt a[k] b[k]] = ofTo a b (k + 1) := by
  have hk : k < (List.zipWith ofAt a b).length := by simp; omega
  have := filtTo_yes (p := someRows) hk (by simp only [List.getElem_zipWith, someRows, decide_eq_true_eq]; exact h)
  rw [List.getElem_zipWith] at this
  exact this
theorem ofTo_no {a b : List Namedt} {k : Nat} (ha : k < a.length) (hb : k < b.length) (h : ¬ 0 < (ofAt a[k] b[k]).plus.rows.length + (ofAt a[k] b[k]).minus.rows.length) : ofTo a b k = ofTo a b (k + 1) := by
  have hk : k < (List.zipWith ofAt a b).length := by simp; omega
  exact filtTo_no (p := someRows) hk (by simp only [List.getElem_zipWith, someRows, decide_eq_false_iff_not]; exact h)
theorem ofTo_len {a b : List Namedt} {k : Nat} : (ofTo a b k).length ≤ a.length := by
  have := filtTo_len (p := someRows) (rows := List.zipWith ofAt a b) (k := k)
  simp only [List.length_zipWith] at this
  unfold ofTo; omega
def pairAt (a b : List Namedt) (k : Nat) (h : k < a.length) : Bool := if h' : k < b.length then a[k].name == b[k].name && decide (a[k].rel.arity = b[k].rel.arity) else false
def deltaOf (a b : Storet) : Deltat × Bool := if (storeOk a && (storeOk b && (decide (a.rels.length = b.rels.length) && everyB (pairAt a.rels b.rels)))) = true then (⟨ofTo a.rels b.rels a.rels.length⟩, true) else (⟨[]⟩, false)
theorem deltaOf_a {a b : Storet} (h : storeOk a = false) : deltaOf a b = (⟨[]⟩, false) := by simp [deltaOf, h]
theorem deltaOf_b {a b : Storet} (h : storeOk b = false) : deltaOf a b = (⟨[]⟩, false) := by simp [deltaOf, h]
theorem deltaOf_len {a b : Storet} (h : ¬ (a.rels.length : Int) = b.rels.length) : deltaOf a b = (⟨[]⟩, false) := by
  have : ¬ a.rels.length = b.rels.length := by omega
  simp [deltaOf, this]
theorem deltaOf_bad {a b : Storet} {k : Nat} (hk : k < a.rels.length) (h : pairAt a.rels b.rels k hk = false) : deltaOf a b = (⟨[]⟩, false) := by simp [deltaOf, everyB_bad hk h]
theorem deltaOf_good {a b : Storet} {k : Nat} (h1 : storeOk a = true) (h2 : storeOk b = true) (h3 : (a.rels.length : Int) = b.rels.length) (h : AllAt (pairAt a.rels b.rels) k) (hk : a.rels.length ≤ k) : deltaOf a b = (⟨ofTo a.rels b.rels k⟩, true) := by
  have e : a.rels.length = b.rels.length := by omega
  have : ofTo a.rels b.rels a.rels.length = ofTo a.rels b.rels k := by
    unfold ofTo; rw [filtTo_all (by simp; omega), filtTo_all (by simp; omega)]
  simp only [deltaOf, h1, h2, AllAt.all h hk, this]; simp [e]
theorem pairAt_name {a b : List Namedt} {k : Nat} (ha : k < a.length) (hb : k < b.length) (h : (a[k].name == b[k].name) = false) : pairAt a b k ha = false := by simp [pairAt, hb, h]
theorem pairAt_ar {a b : List Namedt} {k : Nat} (ha : k < a.length) (hb : k < b.length) (h : ¬ a[k].rel.arity = b[k].rel.arity) : pairAt a b k ha = false := by simp [pairAt, h]
theorem pairAt_yes {a b : List Namedt} {k : Nat} (ha : k < a.length) (hb : k < b.length) (h : (a[k].name == b[k].name) = true) (h2 : a[k].rel.arity = b[k].rel.arity) : pairAt a b k ha = true := by simp [pairAt, hb, h, h2]
theorem ofAt_small {x y : Namedt} (hx : smallNamed x) (hy : smallNamed y) : smallChange (ofAt x y) := ⟨hx.1, small_filter (a := y.rel) _ _ hy.2, small_filter (a := x.rel) _ _ hx.2⟩
theorem deltaOf_bound {a b : Storet} (ha : smallStore a) (hb : smallStore b) : cntDDelta (deltaOf a b).1 ≤ 1152921504606846976 := by
  unfold deltaOf; split
  · rename_i h
    simp only [Bool.and_eq_true] at h
    have hl := storeOk_max h.1
    have h1 := cntL_le (c := cntChange) (M := 4398046511107) (xs := ofTo a.rels b.rels a.rels.length) fun c hc => by
      unfold ofTo filtTo at hc
      have hc := List.mem_of_mem_take (List.mem_filter.1 hc).1
      obtain ⟨j, hj, rfl⟩ := List.getElem_of_mem hc
      rw [List.getElem_zipWith]
      simp only [List.length_zipWith] at hj
      have hx := hb.2 _ (List.getElem_mem (l := b.rels) (n := j) (by omega))
      have hy := ha.2 _ (List.getElem_mem (l := a.rels) (n := j) (by omega))
      obtain ⟨-, q1, q2⟩ := ofAt_small hy hx
      have e1 := cntL_le (c := cntRow) (M := 2097152) (xs := (ofAt (a.rels[j]'(by omega)) (b.rels[j]'(by omega))).plus.rows) fun x hx => cntRow_le (q1.2 x hx)
      have e2 := cntL_le (c := cntRow) (M := 2097152) (xs := (ofAt (a.rels[j]'(by omega)) (b.rels[j]'(by omega))).minus.rows) fun x hx => cntRow_le (q2.2 x hx)
      have := q1.1
      have := q2.1
      simp only [cntChange]; omega
    have h2 := ofTo_len (a := a.rels) (b := b.rels) (k := a.rels.length)
    simp only [cntDDelta]; omega
  · simp [cntDDelta, cntL]
end Go.Proofs.Ytibhoanjglfaoaa

/- RelPick, RelDrop in plain words. -/
namespace Go.Proofs.Ytibhoanjglfaoaa
open Go.RowKit
set_option linter.unusedVariables false

theorem relOk_parts {r : Relt} (h : relOk r = true) : GoodTo r.rows r.arity r.rows.length ∧ 0 ≤ r.arity ∧ r.arity ≤ 6 ∧ r.rows.length ≤ 300 := by
  simp only [relOk, Bool.and_eq_true, decide_eq_true_eq] at h
  exact ⟨relRows_good h.1, h.2.1.1, h.2.1.2, h.2.2⟩
theorem GoodTo.len {rows : List (List Val)} {ar : Int} {k j : Nat} (h : GoodTo rows ar k) (hj : j < rows.length) (hjk : j < k) : (rows[j].length : Int) = ar := by
  have := h j hj hjk
  cases j with
  | zero => simp only [rowAt, Bool.and_eq_true, beq_iff_eq] at this; exact this.2
  | succ j => simp only [rowAt, Bool.and_eq_true, beq_iff_eq] at this; exact this.1.2
theorem relOk_ar {r : Relt} (h : relOk r = true) {k : Nat} (hk : k < r.rows.length) : (r.rows[k].length : Int) = r.arity := (relOk_parts h).1.len hk hk
theorem relOk_row {r : Relt} (h : relOk r = true) {k : Nat} (hk : k < r.rows.length) : rowOk r.rows[k] = true := (relOk_parts h).1.row hk hk
/-- The value in a column is v. -/
def pickB (col : Int) (v : Val) (row : List Val) : Bool := match row[col.toNat]? with | some u => sameVal u v | none => false
theorem pickB_at {col : Int} {v : Val} {row : List Val} {k : Nat} (hk : k < row.length) (hc : col.toNat = k) : pickB col v row = sameVal row[k] v := by
  unfold pickB; rw [hc, List.getElem?_eq_getElem hk]
def pickOk (r : Relt) (col : Int) (v : Val) : Bool := relOk r && (decide (0 ≤ col ∧ col < r.arity) && valOk v)
def relPick (r : Relt) (col : Int) (v : Val) : Relt × Bool := if pickOk r col v = true then (⟨r.arity, r.rows.filter (pickB col v)⟩, true) else (⟨0, []⟩, false)
theorem relPick_ok {r : Relt} {col : Int} {v : Val} (h : relOk r = true) (h0 : 0 ≤ col) (h1 : col < r.arity) (hv : valOk v = true) : relPick r col v = (⟨r.arity, r.rows.filter (pickB col v)⟩, true) := if_pos (by simp [pickOk, h, h0, h1, hv])
theorem relPick_no {r : Relt} {col : Int} {v : Val} (h : relOk r = false ∨ ¬ (0 ≤ col ∧ col < r.arity) ∨ valOk v = false) : relPick r col v = (⟨0, []⟩, false) := if_neg (by
  rcases h with h | h | h
  · simp [pickOk, h]
  · simp [pickOk, h]
  · simp [pickOk, h])
theorem relPick_small {r : Relt} {col : Int} {v : Val} (h : smallRel r) : smallRel (relPick r col v).1 := by
  unfold relPick; split
  · exact small_filter _ _ h
  · exact small_none
end Go.Proofs.Ytibhoanjglfaoaa

/- Numbers and texts ars bytes, in plain words. -/
namespace Go.Proofs.Ytibhoanjglfaoaa
open Go.RowKit
set_option linter.unusedVariables false

/-- The bytes of n, the highest first, but for the last j of size. -/
def putTo (n : Int) (size j : Nat) : List Int := (List.range (size - j)).map fun q => n / 256 ^ (size - 1 - q) % 256
def putB (n : Int) (size : Nat) : List Int := putTo n size 0
theorem putTo_start {n : Int} {size : Nat} : putTo n size size = [] := by simp [putTo]
theorem putTo_more {n : Int} {size j : Nat} (h : j < size) : putTo n size (j + 1) ++ [n / 256 ^ j % 256] = putTo n size j := by
  unfold putTo
  rw [show size - j = size - (j + 1) + 1 by omega, List.range_succ, List.map_append, List.map_cons, List.map_nil, show size - 1 - (size - (j + 1)) = j by omega]
theorem putTo_len {n : Int} {size j : Nat} : (putTo n size j).length = size - j := by simp [putTo]
theorem putB_len {n : Int} {size : Nat} : (putB n size).length = size := by simp [putB, putTo]
theorem shr8 {m : Int} {i : Nat} (h0 : 0 ≤ m) (hi : i ≤ 6) : m.fdiv (2 ^ (min (8 * (i : Int)).toNat IntKind.i64.bits)) = m / 256 ^ i := by
  have e : (2 : Int) ^ (min (8 * (i : Int)).toNat IntKind.i64.bits) = 256 ^ i := by
    have h : i = 0 ∨ i = 1 ∨ i = 2 ∨ i = 3 ∨ i = 4 ∨ i = 5 ∨ i = 6 := by omega
    rcases h with rfl | rfl | rfl | rfl | rfl | rfl | rfl <;> rfl
  rw [e, Int.fdiv_eq_ediv_of_nonneg _ (Int.pow_nonneg (by omega))]
theorem div256_in {m : Int} {i : Nat} (h0 : 0 ≤ m) : 0 ≤ m / 256 ^ i ∧ m / 256 ^ i ≤ m :=
  ⟨Int.ediv_nonneg h0 (Int.pow_nonneg (by omega)), Int.ediv_le_self _ h0⟩
theorem wf64i {m : Int} (h0 : 0 ≤ m) (h1 : m ≤ 9223372036854775807) : (Lit.int .i64 m).wf = true := by
  simp only [Lit.wf, Bool.and_eq_true, decide_eq_true_eq]
  have a : IntKind.i64.min = -9223372036854775808 := rfl
  have b : IntKind.i64.max = 9223372036854775807 := rfl
  rw [a, b]; omega
theorem wrap8 (m : Int) : IntKind.u8.wrap m = m % 256 := rfl
theorem wrap8_id {m : Int} (h0 : 0 ≤ m) (h1 : m < 256) : IntKind.u8.wrap m = m := by rw [wrap8]; omega
theorem texts_eq {a b : ByteArray} (h : a.data.toList = b.data.toList) : a = b := by
  obtain ⟨⟨a⟩⟩ := a
  obtain ⟨⟨b⟩⟩ := b
  simp at h; rw [h]
def valBytes (v : Val) : List Int := if (v.s == (⟨#[]⟩ : ByteArray)) = true then [0] ++ putB v.n 6 else [(v.s.size : Int)] ++ strBytes v.s
theorem valBytes_num {v : Val} (h : (v.s == (⟨#[]⟩ : ByteArray)) = true) : valBytes v = [0] ++ putB v.n 6 := by simp [valBytes, h]
theorem valBytes_word {v : Val} (h : (v.s == (⟨#[]⟩ : ByteArray)) = false) : valBytes v = [(v.s.size : Int)] ++ strBytes v.s := by simp [valBytes, h]
theorem valOk_in {v : Val} (h : valOk v = true) : 0 ≤ v.n ∧ v.n ≤ 281474976710655 ∧ v.s.size ≤ 12 := by
  unfold valOk at h
  split at h
  · rename_i he
    have : v.s.size = 0 := by
      rw [ByteArray.toList_eq] at he
      have : v.s.data.toList = [] := by simpa using he
      have h2 := congrArg List.length this
      rw [Array.length_toList] at h2
      exact h2
    simp only [numB, decide_eq_true_eq] at h
    exact ⟨h.1, h.2, by omega⟩
  · simp only [Bool.and_eq_true, beq_iff_eq, wordB, shortB, decide_eq_true_eq] at h
    exact ⟨by omega, by omega, by omega⟩
theorem valBytes_len {v : Val} (h : valOk v = true) : (valBytes v).length ≤ 13 := by
  have := valOk_in h
  unfold valBytes; split
  · simp [putB_len]
  · simp [strBytes_len]; omega
def flatTo {α : Type} (f : α → List Int) (xs : List α) (k : Nat) : List Int := (xs.take k).flatMap f
theorem flatTo_zero {α : Type} {f : α → List Int} {xs : List α} : flatTo f xs 0 = [] := rfl
theorem flatTo_more {α : Type} {f : α → List Int} {xs : List α} {k : Nat} (hk : k < xs.length) : flatTo f xs k ++ f xs[k] = flatTo f xs (k + 1) := by
  unfold flatTo; rw [List.take_succ_eq_append_getElem hk, List.flatMap_append]; simp
theorem flatTo_all {α : Type} {f : α → List Int} {xs : List α} {k : Nat} (hk : xs.length ≤ k) : flatTo f xs k = xs.flatMap f := by unfold flatTo; rw [List.take_of_length_le hk]
theorem flatTo_len {α : Type} {f : α → List Int} {xs : List α} {M k : Nat} (h : ∀ x ∈ xs, (f x).length ≤ M) : (flatTo f xs k).length ≤ M * xs.length := by
  have : ∀ (ys : List α), (∀ x ∈ ys, (f x).length ≤ M) → (ys.flatMap f).length ≤ M * ys.length := by
    intro ys
    induction ys with
    | nil => simp
    | cons y ys ih =>
      intro h
      have h1 := h y (by simp)
      have h2 := ih fun x hx => h x (by simp [hx])
      simp only [List.flatMap_cons, List.length_append, List.length_cons, Nat.mul_succ]; omega
  have h1 := this (xs.take k) fun x hx => h x (List.mem_of_mem_take hx)
  have h2 : (xs.take k).length ≤ xs.length := by simp; omega
  exact Nat.le_trans h1 (Nat.mul_le_mul_left _ h2)
def rowBytes (r : List Val) : List Int := r.flatMap valBytes
def namedBytes (x : Namedt) : List Int := [(x.name.size : Int)] ++ strBytes x.name ++ [x.rel.arity] ++ putB x.rel.rows.length 2 ++ x.rel.rows.flatMap rowBytes
def storeB (s : Storet) : List Int := [(s.rels.length : Int)] ++ s.rels.flatMap namedBytes
def storeBytes (s : Storet) : List Int × Bool := if storeOk s = true then (if 60000 < (storeB s).length then ([], false) else (storeB s, true)) else ([], false)
theorem storeBytes_no {s : Storet} (h : storeOk s = false) : storeBytes s = ([], false) := by simp [storeBytes, h]
theorem storeBytes_big {s : Storet} (h : storeOk s = true) (hs : 60000 < ((storeB s).length : Int)) : storeBytes s = ([], false) := by
  have : 60000 < (storeB s).length := by omega
  simp [storeBytes, h, this]
theorem storeBytes_ok {s : Storet} (h : storeOk s = true) (hs : ¬ 60000 < ((storeB s).length : Int)) : storeBytes s = (storeB s, true) := by
  have : ¬ 60000 < (storeB s).length := by omega
  simp [storeBytes, h, this]
theorem storeOk_word {s : Storet} (h : storeOk s = true) {k : Nat} (hk : k < s.rels.length) : s.rels[k].name.size ≤ 12 := by
  simp only [storeOk, Bool.and_eq_true] at h
  have := everyB_get h.1 hk
  simp only [namedAt, Bool.and_eq_true, wordB, shortB, decide_eq_true_eq] at this
  omega
theorem relOk_small {r : Relt} (h : relOk r = true) : 0 ≤ r.arity ∧ r.arity ≤ 6 ∧ r.rows.length ≤ 300 ∧ ∀ row ∈ r.rows, row.length ≤ 6 := by
  have hp := relOk_parts h
  refine ⟨hp.2.1, hp.2.2.1, hp.2.2.2, fun row hr => ?_⟩
  obtain ⟨j, hj, rfl⟩ := List.getElem_of_mem hr
  have := relOk_ar h hj
  omega
theorem vals_len {r : Relt} (h : relOk r = true) {row : List Val} (hr : row ∈ r.rows) (k : Nat) : (flatTo valBytes row k).length ≤ 78 := by
  have h1 := flatTo_len (f := valBytes) (xs := row) (M := 13) (k := k) fun v hv => valBytes_len (relOk_vals2 h row hr v hv)
  have := (relOk_small h).2.2.2 row hr
  omega
theorem rowBytes_len {r : Relt} (h : relOk r = true) {row : List Val} (hr : row ∈ r.rows) : (rowBytes row).length ≤ 78 := by
  have := vals_len h hr row.length
  rw [flatTo_all (Nat.le_refl _)] at this; exact this
theorem rows_len {r : Relt} (h : relOk r = true) (k : Nat) : (flatTo rowBytes r.rows k).length ≤ 23400 := by
  have h1 := flatTo_len (f := rowBytes) (xs := r.rows) (M := 78) (k := k) fun row hr => rowBytes_len h hr
  have := (relOk_small h).2.2.1
  omega
theorem namedBytes_len {x : Namedt} (h : relOk x.rel = true) (hw : x.name.size ≤ 12) : (namedBytes x).length ≤ 23420 := by
  have h1 := rows_len h x.rel.rows.length
  rw [flatTo_all (Nat.le_refl _)] at h1
  simp only [namedBytes, List.length_append, List.length_cons, List.length_nil, strBytes_len, putB_len]
  omega
theorem names_len {s : Storet} (h : storeOk s = true) (k : Nat) : (flatTo namedBytes s.rels k).length ≤ 562080 := by
  have h1 := flatTo_len (f := namedBytes) (xs := s.rels) (M := 23420) (k := k) fun x hx => by
    obtain ⟨j, hj, rfl⟩ := List.getElem_of_mem hx
    exact namedBytes_len (storeOk_rel h hj) (storeOk_word h hj)
  have := storeOk_max h
  omega
theorem storeB_to {s : Storet} {k : Nat} (hk : s.rels.length ≤ k) : [(s.rels.length : Int)] ++ flatTo namedBytes s.rels k = storeB s := by
  unfold storeB; rw [flatTo_all hk]
theorem p256_in {k : Nat} (h : k ≤ 6) : 1 ≤ (256 : Int) ^ k ∧ (256 : Int) ^ k ≤ 281474976710656 := by
  have : k = 0 ∨ k = 1 ∨ k = 2 ∨ k = 3 ∨ k = 4 ∨ k = 5 ∨ k = 6 := by omega
  rcases this with rfl | rfl | rfl | rfl | rfl | rfl | rfl <;> decide
theorem quo256 {n : Int} {m : Nat} (h0 : 0 ≤ n) (h1 : n ≤ 9223372036854775807) : IntKind.i64.wrap ((n / 256 ^ m).tdiv 256) = n / 256 ^ (m + 1) := by
  have h2 := div256_in (i := m) h0
  rw [Int.tdiv_eq_ediv_of_nonneg h2.1, Int.ediv_ediv_of_nonneg (Int.pow_nonneg (by omega)), ← Int.pow_succ]
  have h3 : 0 ≤ n / 256 ^ m.succ ∧ n / 256 ^ m.succ ≤ n := div256_in (i := m + 1) h0
  exact IntWalk.i64_in _ (by omega)
theorem rem256 {n : Int} {m : Nat} (h0 : 0 ≤ n) : (n / 256 ^ m).tmod 256 = n / 256 ^ m % 256 := Int.tmod_eq_emod_of_nonneg (div256_in h0).1
theorem mod256_in (m : Int) : 0 ≤ m % 256 ∧ m % 256 < 256 := by omega
theorem putB_two (n : Int) : putB n 2 = [n / 256 % 256, n % 256] := by simp [putB, putTo, List.range_succ]
theorem putB_small {n : Int} (h0 : 0 ≤ n) (h1 : n < 65536) : putB n 2 = [n / 256, n % 256] := by
  rw [putB_two, show n / 256 % 256 = n / 256 by omega]
theorem valBytes_num2 {v : Val} (h : (v.s == (⟨#[]⟩ : ByteArray)) = true) : valBytes v = [(v.s.size : Int)] ++ putB v.n 6 := by
  have e : v.s = ⟨#[]⟩ := by
    rw [beq_toListBytes, ByteArray.toList_eq, ByteArray.toList_eq] at h
    exact texts_eq (by simpa using h)
  rw [valBytes_num h, e]; rfl
theorem storeBytes_len (s : Storet) : (storeBytes s).1.length ≤ 60000 := by
  unfold storeBytes; split
  · split
    · simp
    · simp only; omega
  · simp
end Go.Proofs.Ytibhoanjglfaoaa

/- Relations (printed by walk.py) -/
namespace Go.Proofs.Ytibhoanjglfaoaa
open Go.RowKit
set_option linter.unusedVariables false
set_option linter.unusedSimpArgs false
set_option maxRecDepth 100000

set_option maxHeartbeats 4000000 in
theorem sameRowS_c (a b : List Val) (ha : a.length ≤ 1048576) : AC Try.prog 126 [.agg (rowC a), .agg (rowC b)] [] (.one (.c (.bool (sameRow a b)))) [] := by
  refine AC_body1 Try.func126 rfl rfl Try.ntmps126 rfl Try.results126 ?_
  refine AW_seq ?_
  refine AW_region ?_
  refine AL_p (x_box 100 rfl rfl rfl rfl rfl rfl rfl) ?_
  refine AL_p (x_box 101 rfl rfl rfl rfl rfl rfl rfl) ?_
  refine AL_p (x_assign rfl rfl) ?_
  refine AL_nil ?_
  refine AW_seq ?_
  refine AW_seq ?_
  refine AW_region ?_
  refine AL_p (x_field (off := 0) (o' := 0) rfl rfl rfl (by kernel_rfl) rfl) ?_
  refine AL_p (x_load1 rfl rfl rfl (by kernel_rfl) rfl) ?_
  refine AL_p (x_len (E := 94) (n := 2) rfl rfl (by kernel_rfl)) ?_
  refine AL_p (x_field (off := 0) (o' := 0) rfl rfl rfl (by kernel_rfl) rfl) ?_
  refine AL_p (x_load1 rfl rfl rfl (by kernel_rfl) rfl) ?_
  refine AL_p (x_len (E := 94) (n := 2) rfl rfl (by kernel_rfl)) ?_
  refine AL_b (x_neq rfl rfl rfl) (fun b12 h12 => ?_)
  refine AL_nil ?_
  cases b12
  rotate_left
  · try simp only [decide_eq_true_eq, decide_eq_false_iff_not, Bool.not_eq_true, Bool.not_eq_false, Bool.not_eq_true', Bool.not_eq_false', beq_iff_eq, bne_iff_ne, beq_eq_false_iff_ne, bne_eq_false_iff_eq, Int.not_lt, Int.not_le, ge_iff_le, gt_iff_lt] at h12
    refine AW_condT rfl ?_
    refine AW_seq ?_
    refine AW_region ?_
    refine AL_p (x_assign rfl rfl) ?_
    refine AL_nil ?_
    refine AW_ret ?_
    exact ⟨rn [], ⟨⟨⟨_, rfl, vle_bool ((sameRow_len (by omega)).symm)⟩, trivial⟩, trivial, trivial, rfl⟩⟩
  · try simp only [decide_eq_true_eq, decide_eq_false_iff_not, Bool.not_eq_true, Bool.not_eq_false, Bool.not_eq_true', Bool.not_eq_false', beq_iff_eq, bne_iff_ne, beq_eq_false_iff_ne, bne_eq_false_iff_eq, Int.not_lt, Int.not_le, ge_iff_le, gt_iff_lt] at h12
    refine AW_condF rfl ?_
    refine AW_skip ?_
    refine AW_seq ?_
    refine AW_seq ?_
    refine AW_region ?_
    refine AL_p (x_field (off := 0) (o' := 0) rfl rfl rfl (by kernel_rfl) rfl) ?_
    refine AL_p (x_load1 rfl rfl rfl (by kernel_rfl) rfl) ?_
    refine AL_p (x_len (E := 94) (n := 2) rfl rfl (by kernel_rfl)) ?_
    refine AL_p (x_move rfl rfl) ?_
    refine AL_nil ?_
    refine AW_block ?_
    refine AW_loop2 (ι := {q : Nat // q ≤ a.length ∧ SameTo a b q}) (fun p => [(16, .one (.c (.int .i64 ((p.1) : Int))))]) (fun p => []) [2, 3, 15] [100, 101] (fun p => a.length - (p.1)) ⟨0, ⟨by omega, .zero⟩⟩ (rn []) ?_ ?_
    exact ⟨by (repeat refine ⟨⟨_, rfl, by first | exact VLe.rf | exact vle_int (by dsimp only; omega)⟩, ?_⟩); exact trivial, by (repeat refine ⟨⟨_, rfl, by first | exact BLe.rf | exact BLe.box AllC.rf | exact BLe.arr (by exact rfl)⟩, ?_⟩); exact trivial, by repeat (first | exact trivial | refine ⟨⟨rfl, by first | (left; intro h; cases h) | (right; rfl), fun _ h => ⟨_, h⟩⟩, ?_⟩), rfl⟩
    rintro ⟨k, hinv⟩
    dsimp only
    obtain ⟨hk, hs⟩ := hinv
    refine AW_seq ?_
    refine AW_region ?_
    refine AL_b (x_lss rfl rfl rfl) (fun b17 h17 => ?_)
    refine AL_nil ?_
    refine AW_seq ?_
    cases b17
    rotate_left
    · try simp only [decide_eq_true_eq, decide_eq_false_iff_not, Bool.not_eq_true, Bool.not_eq_false, Bool.not_eq_true', Bool.not_eq_false', beq_iff_eq, bne_iff_ne, beq_eq_false_iff_ne, bne_eq_false_iff_eq, Int.not_lt, Int.not_le, ge_iff_le, gt_iff_lt] at h17
      refine AW_condT rfl ?_
      refine AW_skip ?_
      refine AW_seq ?_
      refine AW_block ?_
      refine AW_seq ?_
      refine AW_region ?_
      refine AL_p (x_move rfl rfl) ?_
      refine AL_p (x_assign rfl rfl) ?_
      refine AL_nil ?_
      refine AW_seq ?_
      refine AW_draw rfl ?_
      refine AL_p (x_field (off := 0) (o' := 0) rfl rfl rfl (by kernel_rfl) rfl) ?_
      refine AL_p (x_load1 rfl rfl rfl (by kernel_rfl) rfl) ?_
      refine AL_p (x_move rfl rfl) ?_
      refine AL_p (x_index (E := 94) (n := 2) rfl rfl rfl (by kernel_rfl) rfl rfl (by omega)) ?_
      refine AL_p (x_eloadW (n := 2) rfl rfl (by kernel_rfl) rfl) ?_
      refine AL_p (x_field (off := 0) (o' := 0) rfl rfl rfl (by kernel_rfl) rfl) ?_
      refine AL_p (x_load1 rfl rfl rfl (by kernel_rfl) rfl) ?_
      refine AL_p (x_move rfl rfl) ?_
      refine AL_p (x_index (E := 94) (n := 2) rfl rfl rfl (by kernel_rfl) rfl rfl (by omega)) ?_
      refine AL_p (x_eloadW (n := 2) rfl rfl (by kernel_rfl) rfl) ?_
      refine AL_b (x_vneq rfl rfl rfl) (fun b29 h29 => ?_)
      refine AL_nild (by kernel_rfl) ?_
      cases b29
      rotate_left
      · try simp only [decide_eq_true_eq, decide_eq_false_iff_not, Bool.not_eq_true, Bool.not_eq_false, Bool.not_eq_true', Bool.not_eq_false', beq_iff_eq, bne_iff_ne, beq_eq_false_iff_ne, bne_eq_false_iff_eq, Int.not_lt, Int.not_le, ge_iff_le, gt_iff_lt] at h29
        refine AW_condT rfl ?_
        refine AW_seq ?_
        refine AW_region ?_
        refine AL_p (x_assign rfl rfl) ?_
        refine AL_nil ?_
        refine AW_ret (BQ_ret (BQ_ret ?_))
        exact ⟨rn [], ⟨⟨⟨_, rfl, vle_bool ((sameRow_at (k := k) (by omega) (by omega) h29).symm)⟩, trivial⟩, trivial, trivial, rfl⟩⟩
      · try simp only [decide_eq_true_eq, decide_eq_false_iff_not, Bool.not_eq_true, Bool.not_eq_false, Bool.not_eq_true', Bool.not_eq_false', beq_iff_eq, bne_iff_ne, beq_eq_false_iff_ne, bne_eq_false_iff_eq, Int.not_lt, Int.not_le, ge_iff_le, gt_iff_lt] at h29
        refine AW_condF rfl ?_
        refine AW_skip ?_
        refine AW_region ?_
        refine AL_p (x_add rfl rfl rfl (IntWalk.i64_in _ (by omega))) ?_
        refine AL_p (x_move rfl rfl) ?_
        refine AL_nil ?_
        refine ⟨⟨k + 1, ⟨by omega, hs.succ (by omega) (by omega) h29⟩⟩, rn [], ?_, by dsimp only; omega⟩
        exact ⟨by (repeat refine ⟨⟨_, rfl, by first | exact VLe.rf | exact vle_int (by dsimp only; omega)⟩, ?_⟩); exact trivial, by (repeat refine ⟨⟨_, rfl, by first | exact BLe.rf | exact BLe.box AllC.rf | exact BLe.arr (by exact rfl)⟩, ?_⟩); exact trivial, by repeat (first | exact trivial | refine ⟨⟨rfl, by first | (left; intro h; cases h) | (right; rfl), fun _ h => ⟨_, h⟩⟩, ?_⟩), rfl⟩
    · try simp only [decide_eq_true_eq, decide_eq_false_iff_not, Bool.not_eq_true, Bool.not_eq_false, Bool.not_eq_true', Bool.not_eq_false', beq_iff_eq, bne_iff_ne, beq_eq_false_iff_ne, bne_eq_false_iff_eq, Int.not_lt, Int.not_le, ge_iff_le, gt_iff_lt] at h17
      refine AW_condF rfl ?_
      refine AW_exit (BQ_hit ?_)
      refine AW_seq ?_
      refine AW_region ?_
      refine AL_p (x_assign rfl rfl) ?_
      refine AL_nil ?_
      refine AW_ret ?_
      exact ⟨rn [], ⟨⟨⟨_, rfl, vle_bool ((sameRow_eq (hs.eq (by omega) (by omega))).symm)⟩, trivial⟩, trivial, trivial, rfl⟩⟩

set_option maxHeartbeats 4000000 in
theorem upToI_c (n m : Int) : AC Try.prog 108 [.one (.c (.int .i64 n)), .one (.c (.int .i64 m))] [] (.one (.c (.bool (upToB n m)))) [] := by
  refine AC_body1 Try.func108 rfl rfl Try.ntmps108 rfl Try.results108 ?_
  refine AW_seq ?_
  refine AW_region ?_
  refine AL_p (x_assign rfl rfl) ?_
  refine AL_nil ?_
  refine AW_seq ?_
  refine AW_region ?_
  refine AL_p (x_move rfl rfl) ?_
  refine AL_b (x_geq rfl rfl rfl) (fun b6 h6 => ?_)
  refine AL_p (x_move rfl rfl) ?_
  cases b6
  rotate_left
  · try simp only [decide_eq_true_eq, decide_eq_false_iff_not, Bool.not_eq_true, Bool.not_eq_false, Bool.not_eq_true', Bool.not_eq_false', beq_iff_eq, bne_iff_ne, beq_eq_false_iff_ne, bne_eq_false_iff_eq, Int.not_lt, Int.not_le, ge_iff_le, gt_iff_lt] at h6
    refine AL_g rfl rfl (x_move rfl rfl) ?_
    refine AL_g rfl rfl (x_move rfl rfl) ?_
    refine AL_gb rfl rfl (x_leq rfl rfl rfl) (fun b10 h10 => ?_)
    refine AL_p (x_pickT rfl rfl rfl) ?_
    refine AL_p (x_assign rfl rfl) ?_
    refine AL_nil ?_
    refine AW_ret ?_
    cases b10
    rotate_left
    · try simp only [decide_eq_true_eq, decide_eq_false_iff_not, Bool.not_eq_true, Bool.not_eq_false, Bool.not_eq_true', Bool.not_eq_false', beq_iff_eq, bne_iff_ne, beq_eq_false_iff_ne, bne_eq_false_iff_eq, Int.not_lt, Int.not_le, ge_iff_le, gt_iff_lt] at h10
      exact ⟨rn [], ⟨⟨⟨_, rfl, vle_bool (by first | exact (decide_eq_true (by omega)).symm | exact (decide_eq_false (by omega)).symm)⟩, trivial⟩, trivial, trivial, rfl⟩⟩
    · try simp only [decide_eq_true_eq, decide_eq_false_iff_not, Bool.not_eq_true, Bool.not_eq_false, Bool.not_eq_true', Bool.not_eq_false', beq_iff_eq, bne_iff_ne, beq_eq_false_iff_ne, bne_eq_false_iff_eq, Int.not_lt, Int.not_le, ge_iff_le, gt_iff_lt] at h10
      exact ⟨rn [], ⟨⟨⟨_, rfl, vle_bool (by first | exact (decide_eq_true (by omega)).symm | exact (decide_eq_false (by omega)).symm)⟩, trivial⟩, trivial, trivial, rfl⟩⟩
  · try simp only [decide_eq_true_eq, decide_eq_false_iff_not, Bool.not_eq_true, Bool.not_eq_false, Bool.not_eq_true', Bool.not_eq_false', beq_iff_eq, bne_iff_ne, beq_eq_false_iff_ne, bne_eq_false_iff_eq, Int.not_lt, Int.not_le, ge_iff_le, gt_iff_lt] at h6
    refine AL_o rfl rfl rfl rfl ?_
    refine AL_o rfl rfl rfl rfl ?_
    refine AL_o rfl rfl rfl rfl ?_
    refine AL_p (x_pickF rfl rfl rfl) ?_
    refine AL_p (x_assign rfl rfl) ?_
    refine AL_nil ?_
    refine AW_ret ?_
    exact ⟨rn [], ⟨⟨⟨_, rfl, vle_bool (by first | exact (decide_eq_true (by omega)).symm | exact (decide_eq_false (by omega)).symm)⟩, trivial⟩, trivial, trivial, rfl⟩⟩

set_option maxHeartbeats 4000000 in
theorem relOkS_c (r : Relt) (hl : r.rows.length ≤ 1048576) : AC Try.prog 58 [.agg (relC r)] [] (.one (.c (.bool (relOk r)))) [] := by
  refine AC_body1 Try.func58 rfl rfl Try.ntmps58 rfl Try.results58 ?_
  refine AW_seq ?_
  refine AW_region ?_
  refine AL_p (x_box 100 rfl rfl rfl rfl rfl rfl rfl) ?_
  refine AL_p (x_assign rfl rfl) ?_
  refine AL_nil ?_
  refine AW_seq ?_
  refine AW_seq ?_
  refine AW_region ?_
  refine AL_p (x_field (off := 0) (o' := 0) rfl rfl rfl (by kernel_rfl) rfl) ?_
  refine AL_p (x_load1 rfl rfl rfl (by kernel_rfl) rfl) ?_
  refine AL_b (x_lss rfl rfl rfl) (fun b6 h6 => ?_)
  refine AL_p (x_move rfl rfl) ?_
  cases b6
  rotate_left
  · try simp only [decide_eq_true_eq, decide_eq_false_iff_not, Bool.not_eq_true, Bool.not_eq_false, Bool.not_eq_true', Bool.not_eq_false', beq_iff_eq, bne_iff_ne, beq_eq_false_iff_ne, bne_eq_false_iff_eq, Int.not_lt, Int.not_le, ge_iff_le, gt_iff_lt] at h6
    refine AL_o rfl rfl rfl rfl ?_
    refine AL_o rfl rfl rfl rfl ?_
    refine AL_o rfl rfl rfl rfl ?_
    refine AL_p (x_pickT rfl rfl rfl) ?_
    refine AL_p (x_move rfl rfl) ?_
    refine AL_o rfl rfl rfl rfl ?_
    refine AL_o rfl rfl rfl rfl ?_
    refine AL_o rfl rfl rfl rfl ?_
    refine AL_o rfl rfl rfl rfl ?_
    refine AL_p (x_pickT rfl rfl rfl) ?_
    refine AL_nil ?_
    refine AW_condT rfl ?_
    refine AW_seq ?_
    refine AW_region ?_
    refine AL_p (x_assign rfl rfl) ?_
    refine AL_nil ?_
    refine AW_ret ?_
    exact ⟨rn [], ⟨⟨⟨_, rfl, vle_bool (by first | exact (relOk_range (by omega)).symm | exact (relOk_bad (k := k) (by omega) (rowAt_len (by omega) (by omega))).symm | exact (relOk_bad (k := k) (by omega) (rowAt_row (by omega) h40)).symm | exact (relOk_bad (k := k) (by omega) (rowAt_order (by omega) (by omega) (by rw [← rowOrder_lt hprev h40]; exact h58))).symm | exact (relOk_good hs (by omega) (by omega) (by omega) (by omega)).symm)⟩, trivial⟩, trivial, trivial, rfl⟩⟩
  · try simp only [decide_eq_true_eq, decide_eq_false_iff_not, Bool.not_eq_true, Bool.not_eq_false, Bool.not_eq_true', Bool.not_eq_false', beq_iff_eq, bne_iff_ne, beq_eq_false_iff_ne, bne_eq_false_iff_eq, Int.not_lt, Int.not_le, ge_iff_le, gt_iff_lt] at h6
    refine AL_g rfl rfl (x_field (off := 0) (o' := 0) rfl rfl rfl (by kernel_rfl) rfl) ?_
    refine AL_g rfl rfl (x_load1 rfl rfl rfl (by kernel_rfl) rfl) ?_
    refine AL_gb rfl rfl (x_gtr rfl rfl rfl) (fun b10 h10 => ?_)
    refine AL_p (x_pickF rfl rfl rfl) ?_
    refine AL_p (x_move rfl rfl) ?_
    cases b10
    rotate_left
    · try simp only [decide_eq_true_eq, decide_eq_false_iff_not, Bool.not_eq_true, Bool.not_eq_false, Bool.not_eq_true', Bool.not_eq_false', beq_iff_eq, bne_iff_ne, beq_eq_false_iff_ne, bne_eq_false_iff_eq, Int.not_lt, Int.not_le, ge_iff_le, gt_iff_lt] at h10
      refine AL_o rfl rfl rfl rfl ?_
      refine AL_o rfl rfl rfl rfl ?_
      refine AL_o rfl rfl rfl rfl ?_
      refine AL_o rfl rfl rfl rfl ?_
      refine AL_p (x_pickT rfl rfl rfl) ?_
      refine AL_nil ?_
      refine AW_condT rfl ?_
      refine AW_seq ?_
      refine AW_region ?_
      refine AL_p (x_assign rfl rfl) ?_
      refine AL_nil ?_
      refine AW_ret ?_
      exact ⟨rn [], ⟨⟨⟨_, rfl, vle_bool (by first | exact (relOk_range (by omega)).symm | exact (relOk_bad (k := k) (by omega) (rowAt_len (by omega) (by omega))).symm | exact (relOk_bad (k := k) (by omega) (rowAt_row (by omega) h40)).symm | exact (relOk_bad (k := k) (by omega) (rowAt_order (by omega) (by omega) (by rw [← rowOrder_lt hprev h40]; exact h58))).symm | exact (relOk_good hs (by omega) (by omega) (by omega) (by omega)).symm)⟩, trivial⟩, trivial, trivial, rfl⟩⟩
    · try simp only [decide_eq_true_eq, decide_eq_false_iff_not, Bool.not_eq_true, Bool.not_eq_false, Bool.not_eq_true', Bool.not_eq_false', beq_iff_eq, bne_iff_ne, beq_eq_false_iff_ne, bne_eq_false_iff_eq, Int.not_lt, Int.not_le, ge_iff_le, gt_iff_lt] at h10
      refine AL_g rfl rfl (x_field (off := 1) (o' := 1) rfl rfl rfl (by kernel_rfl) rfl) ?_
      refine AL_g rfl rfl (x_load1 rfl rfl rfl (by kernel_rfl) rfl) ?_
      refine AL_g rfl rfl (x_len (E := 92) (n := 1) rfl rfl (by kernel_rfl)) ?_
      refine AL_gb rfl rfl (x_gtr rfl rfl rfl) (fun b16 h16 => ?_)
      refine AL_p (x_pickF rfl rfl rfl) ?_
      refine AL_nil ?_
      cases b16
      rotate_left
      · try simp only [decide_eq_true_eq, decide_eq_false_iff_not, Bool.not_eq_true, Bool.not_eq_false, Bool.not_eq_true', Bool.not_eq_false', beq_iff_eq, bne_iff_ne, beq_eq_false_iff_ne, bne_eq_false_iff_eq, Int.not_lt, Int.not_le, ge_iff_le, gt_iff_lt] at h16
        refine AW_condT rfl ?_
        refine AW_seq ?_
        refine AW_region ?_
        refine AL_p (x_assign rfl rfl) ?_
        refine AL_nil ?_
        refine AW_ret ?_
        exact ⟨rn [], ⟨⟨⟨_, rfl, vle_bool (by first | exact (relOk_range (by omega)).symm | exact (relOk_bad (k := k) (by omega) (rowAt_len (by omega) (by omega))).symm | exact (relOk_bad (k := k) (by omega) (rowAt_row (by omega) h40)).symm | exact (relOk_bad (k := k) (by omega) (rowAt_order (by omega) (by omega) (by rw [← rowOrder_lt hprev h40]; exact h58))).symm | exact (relOk_good hs (by omega) (by omega) (by omega) (by omega)).symm)⟩, trivial⟩, trivial, trivial, rfl⟩⟩
      · try simp only [decide_eq_true_eq, decide_eq_false_iff_not, Bool.not_eq_true, Bool.not_eq_false, Bool.not_eq_true', Bool.not_eq_false', beq_iff_eq, bne_iff_ne, beq_eq_false_iff_ne, bne_eq_false_iff_eq, Int.not_lt, Int.not_le, ge_iff_le, gt_iff_lt] at h16
        refine AW_condF rfl ?_
        refine AW_skip ?_
        refine AW_seq ?_
        refine AW_seq ?_
        refine AW_region ?_
        refine AL_p (x_field (off := 1) (o' := 1) rfl rfl rfl (by kernel_rfl) rfl) ?_
        refine AL_p (x_load1 rfl rfl rfl (by kernel_rfl) rfl) ?_
        refine AL_p (x_len (E := 92) (n := 1) rfl rfl (by kernel_rfl)) ?_
        refine AL_p (x_move rfl rfl) ?_
        refine AL_nil ?_
        refine AW_block ?_
        refine AW_loop2 (ι := {q : Nat // q ≤ r.rows.length ∧ GoodTo r.rows r.arity q}) (fun p => [(21, .one (.c (.int .i64 ((p.1) : Int))))]) (fun p => []) [1, 20] [100] (fun p => r.rows.length - (p.1)) ⟨0, ⟨by omega, .zero⟩⟩ (rn []) ?_ ?_
        exact ⟨by (repeat refine ⟨⟨_, rfl, by first | exact VLe.rf | exact vle_int (by dsimp only; omega)⟩, ?_⟩); exact trivial, by (repeat refine ⟨⟨_, rfl, by first | exact BLe.rf | exact BLe.box AllC.rf | exact BLe.arr (by exact rfl)⟩, ?_⟩); exact trivial, by repeat (first | exact trivial | refine ⟨⟨rfl, by first | (left; intro h; cases h) | (right; rfl), fun _ h => ⟨_, h⟩⟩, ?_⟩), rfl⟩
        rintro ⟨k, hinv⟩
        dsimp only
        obtain ⟨hk, hs⟩ := hinv
        refine AW_seq ?_
        refine AW_region ?_
        refine AL_b (x_lss rfl rfl rfl) (fun b22 h22 => ?_)
        refine AL_nil ?_
        refine AW_seq ?_
        cases b22
        rotate_left
        · try simp only [decide_eq_true_eq, decide_eq_false_iff_not, Bool.not_eq_true, Bool.not_eq_false, Bool.not_eq_true', Bool.not_eq_false', beq_iff_eq, bne_iff_ne, beq_eq_false_iff_ne, bne_eq_false_iff_eq, Int.not_lt, Int.not_le, ge_iff_le, gt_iff_lt] at h22
          refine AW_condT rfl ?_
          refine AW_skip ?_
          refine AW_seq ?_
          refine AW_block ?_
          refine AW_seq ?_
          refine AW_region ?_
          refine AL_p (x_move rfl rfl) ?_
          refine AL_p (x_assign rfl rfl) ?_
          refine AL_nil ?_
          refine AW_seq ?_
          refine AW_seq ?_
          refine AW_draw rfl ?_
          refine AL_p (x_field (off := 1) (o' := 1) rfl rfl rfl (by kernel_rfl) rfl) ?_
          refine AL_p (x_load1 rfl rfl rfl (by kernel_rfl) rfl) ?_
          refine AL_p (x_move rfl rfl) ?_
          refine AL_p (x_index (E := 92) (n := 1) rfl rfl rfl (by kernel_rfl) rfl rfl (by omega)) ?_
          refine AL_p (x_efield (off := 0) (o' := 0) rfl rfl (by kernel_rfl) rfl) ?_
          refine AL_p (x_eload1 rfl rfl (by kernel_rfl) rfl) ?_
          refine AL_p (x_len (E := 94) (n := 2) rfl rfl (by kernel_rfl)) ?_
          refine AL_p (x_field (off := 0) (o' := 0) rfl rfl rfl (by kernel_rfl) rfl) ?_
          refine AL_p (x_load1 rfl rfl rfl (by kernel_rfl) rfl) ?_
          refine AL_b (x_neq rfl rfl rfl) (fun b33 h33 => ?_)
          refine AL_p (x_move rfl rfl) ?_
          cases b33
          rotate_left
          · try simp only [decide_eq_true_eq, decide_eq_false_iff_not, Bool.not_eq_true, Bool.not_eq_false, Bool.not_eq_true', Bool.not_eq_false', beq_iff_eq, bne_iff_ne, beq_eq_false_iff_ne, bne_eq_false_iff_eq, Int.not_lt, Int.not_le, ge_iff_le, gt_iff_lt] at h33
            refine AL_o rfl rfl rfl rfl ?_
            refine AL_o rfl rfl rfl rfl ?_
            refine AL_o rfl rfl rfl rfl ?_
            refine AL_o rfl rfl rfl rfl ?_
            refine AL_o rfl rfl rfl rfl ?_
            refine AL_o rfl rfl rfl rfl ?_
            refine AL_o rfl rfl rfl rfl ?_
            refine AL_p (x_pickT rfl rfl rfl) ?_
            refine AL_nild (by kernel_rfl) ?_
            refine AW_condT rfl ?_
            refine AW_seq ?_
            refine AW_region ?_
            refine AL_p (x_assign rfl rfl) ?_
            refine AL_nil ?_
            refine AW_ret (BQ_ret (BQ_ret ?_))
            exact ⟨rn [], ⟨⟨⟨_, rfl, vle_bool (by first | exact (relOk_range (by omega)).symm | exact (relOk_bad (k := k) (by omega) (rowAt_len (by omega) (by omega))).symm | exact (relOk_bad (k := k) (by omega) (rowAt_row (by omega) h40)).symm | exact (relOk_bad (k := k) (by omega) (rowAt_order (by omega) (by omega) (by rw [← rowOrder_lt hprev h40]; exact h58))).symm | exact (relOk_good hs (by omega) (by omega) (by omega) (by omega)).symm)⟩, trivial⟩, trivial, trivial, rfl⟩⟩
          · try simp only [decide_eq_true_eq, decide_eq_false_iff_not, Bool.not_eq_true, Bool.not_eq_false, Bool.not_eq_true', Bool.not_eq_false', beq_iff_eq, bne_iff_ne, beq_eq_false_iff_ne, bne_eq_false_iff_eq, Int.not_lt, Int.not_le, ge_iff_le, gt_iff_lt] at h33
            refine AL_g rfl rfl (x_field (off := 1) (o' := 1) rfl rfl rfl (by kernel_rfl) rfl) ?_
            refine AL_g rfl rfl (x_load1 rfl rfl rfl (by kernel_rfl) rfl) ?_
            refine AL_g rfl rfl (x_move rfl rfl) ?_
            refine AL_g rfl rfl (x_index (E := 92) (n := 1) rfl rfl rfl (by kernel_rfl) rfl rfl (by omega)) ?_
            refine AL_g rfl rfl (x_eloadW (n := 1) rfl rfl (by kernel_rfl) rfl) ?_
            refine AL_gb rfl rfl (x_call0 rfl rfl rfl (rowOkS_c _) rfl rfl) (fun b40 h40 => ?_)
            refine AL_g rfl rfl (x_not rfl rfl) ?_
            refine AL_p (x_pickF rfl rfl rfl) ?_
            refine AL_nild (by kernel_rfl) ?_
            cases b40
            rotate_left
            · try simp only [decide_eq_true_eq, decide_eq_false_iff_not, Bool.not_eq_true, Bool.not_eq_false, Bool.not_eq_true', Bool.not_eq_false', beq_iff_eq, bne_iff_ne, beq_eq_false_iff_ne, bne_eq_false_iff_eq, Int.not_lt, Int.not_le, ge_iff_le, gt_iff_lt] at h40
              refine AW_condF rfl ?_
              refine AW_skip ?_
              refine AW_seq ?_
              refine AW_draw rfl ?_
              refine AL_p (x_move rfl rfl) ?_
              refine AL_b (x_gtr rfl rfl rfl) (fun b44 h44 => ?_)
              refine AL_p (x_move rfl rfl) ?_
              cases b44
              rotate_left
              · try simp only [decide_eq_true_eq, decide_eq_false_iff_not, Bool.not_eq_true, Bool.not_eq_false, Bool.not_eq_true', Bool.not_eq_false', beq_iff_eq, bne_iff_ne, beq_eq_false_iff_ne, bne_eq_false_iff_eq, Int.not_lt, Int.not_le, ge_iff_le, gt_iff_lt] at h44
                refine AL_g rfl rfl (x_field (off := 1) (o' := 1) rfl rfl rfl (by kernel_rfl) rfl) ?_
                refine AL_g rfl rfl (x_load1 rfl rfl rfl (by kernel_rfl) rfl) ?_
                refine AL_g rfl rfl (x_move rfl rfl) ?_
                refine AL_g rfl rfl (x_sub rfl rfl rfl (IntWalk.i64_in _ (by omega))) ?_
                refine AL_g rfl rfl (x_index (E := 92) (n := 1) rfl rfl rfl (by kernel_rfl) rfl (k := k - 1) (by omega) (by omega)) ?_
                refine AL_g rfl rfl (x_eloadW (n := 1) rfl rfl (by kernel_rfl) rfl) ?_
                refine AL_g rfl rfl (x_field (off := 1) (o' := 1) rfl rfl rfl (by kernel_rfl) rfl) ?_
                refine AL_g rfl rfl (x_load1 rfl rfl rfl (by kernel_rfl) rfl) ?_
                refine AL_g rfl rfl (x_move rfl rfl) ?_
                refine AL_g rfl rfl (x_index (E := 92) (n := 1) rfl rfl rfl (by kernel_rfl) rfl rfl (by omega)) ?_
                refine AL_g rfl rfl (x_eloadW (n := 1) rfl rfl (by kernel_rfl) rfl) ?_
                refine AL_g rfl rfl (x_call0 rfl rfl rfl (rowOrderS_c _ _) rfl rfl) ?_
                refine AL_gb rfl rfl (x_neq rfl rfl rfl) (fun b58 h58 => ?_)
                refine AL_p (x_pickT rfl rfl rfl) ?_
                refine AL_nild (by kernel_rfl) ?_
                cases b58
                rotate_left
                · try simp only [decide_eq_true_eq, decide_eq_false_iff_not, Bool.not_eq_true, Bool.not_eq_false, Bool.not_eq_true', Bool.not_eq_false', beq_iff_eq, bne_iff_ne, beq_eq_false_iff_ne, bne_eq_false_iff_eq, Int.not_lt, Int.not_le, ge_iff_le, gt_iff_lt] at h58
                  have hprev := hs.row (j := k - 1) (by omega) (by omega)
                  refine AW_condT rfl ?_
                  refine AW_seq ?_
                  refine AW_region ?_
                  refine AL_p (x_assign rfl rfl) ?_
                  refine AL_nil ?_
                  refine AW_ret (BQ_ret (BQ_ret ?_))
                  exact ⟨rn [], ⟨⟨⟨_, rfl, vle_bool (by first | exact (relOk_range (by omega)).symm | exact (relOk_bad (k := k) (by omega) (rowAt_len (by omega) (by omega))).symm | exact (relOk_bad (k := k) (by omega) (rowAt_row (by omega) h40)).symm | exact (relOk_bad (k := k) (by omega) (rowAt_order (by omega) (by omega) (by rw [← rowOrder_lt hprev h40]; exact h58))).symm | exact (relOk_good hs (by omega) (by omega) (by omega) (by omega)).symm)⟩, trivial⟩, trivial, trivial, rfl⟩⟩
                · try simp only [decide_eq_true_eq, decide_eq_false_iff_not, Bool.not_eq_true, Bool.not_eq_false, Bool.not_eq_true', Bool.not_eq_false', beq_iff_eq, bne_iff_ne, beq_eq_false_iff_ne, bne_eq_false_iff_eq, Int.not_lt, Int.not_le, ge_iff_le, gt_iff_lt] at h58
                  have hprev := hs.row (j := k - 1) (by omega) (by omega)
                  have hat := rowAt_next (ar := r.arity) (k := k) (by omega) (by omega) h40 (by omega) ((rowOrder_lt hprev h40).1 h58)
                  refine AW_condF rfl ?_
                  refine AW_skip ?_
                  refine AW_region ?_
                  refine AL_p (x_add rfl rfl rfl (IntWalk.i64_in _ (by omega))) ?_
                  refine AL_p (x_move rfl rfl) ?_
                  refine AL_nil ?_
                  refine ⟨⟨k + 1, ⟨by omega, hs.succ (by omega) hat⟩⟩, rn [], ?_, by dsimp only; omega⟩
                  exact ⟨by (repeat refine ⟨⟨_, rfl, by first | exact VLe.rf | exact vle_int (by dsimp only; omega)⟩, ?_⟩); exact trivial, by (repeat refine ⟨⟨_, rfl, by first | exact BLe.rf | exact BLe.box AllC.rf | exact BLe.arr (by exact rfl)⟩, ?_⟩); exact trivial, by repeat (first | exact trivial | refine ⟨⟨rfl, by first | (left; intro h; cases h) | (right; rfl), fun _ h => ⟨_, h⟩⟩, ?_⟩), rfl⟩
              · try simp only [decide_eq_true_eq, decide_eq_false_iff_not, Bool.not_eq_true, Bool.not_eq_false, Bool.not_eq_true', Bool.not_eq_false', beq_iff_eq, bne_iff_ne, beq_eq_false_iff_ne, bne_eq_false_iff_eq, Int.not_lt, Int.not_le, ge_iff_le, gt_iff_lt] at h44
                have hat := rowAt_first (ar := r.arity) (k := k) (by omega) (by omega) h40 (by omega)
                refine AL_o rfl rfl rfl rfl ?_
                refine AL_o rfl rfl rfl rfl ?_
                refine AL_o rfl rfl rfl rfl ?_
                refine AL_o rfl rfl rfl rfl ?_
                refine AL_o rfl rfl rfl rfl ?_
                refine AL_o rfl rfl rfl rfl ?_
                refine AL_o rfl rfl rfl rfl ?_
                refine AL_o rfl rfl rfl rfl ?_
                refine AL_o rfl rfl rfl rfl ?_
                refine AL_o rfl rfl rfl rfl ?_
                refine AL_o rfl rfl rfl rfl ?_
                refine AL_o rfl rfl rfl rfl ?_
                refine AL_o rfl rfl rfl rfl ?_
                refine AL_p (x_pickF rfl rfl rfl) ?_
                refine AL_nild (by kernel_rfl) ?_
                refine AW_condF rfl ?_
                refine AW_skip ?_
                refine AW_region ?_
                refine AL_p (x_add rfl rfl rfl (IntWalk.i64_in _ (by omega))) ?_
                refine AL_p (x_move rfl rfl) ?_
                refine AL_nil ?_
                refine ⟨⟨k + 1, ⟨by omega, hs.succ (by omega) hat⟩⟩, rn [], ?_, by dsimp only; omega⟩
                exact ⟨by (repeat refine ⟨⟨_, rfl, by first | exact VLe.rf | exact vle_int (by dsimp only; omega)⟩, ?_⟩); exact trivial, by (repeat refine ⟨⟨_, rfl, by first | exact BLe.rf | exact BLe.box AllC.rf | exact BLe.arr (by exact rfl)⟩, ?_⟩); exact trivial, by repeat (first | exact trivial | refine ⟨⟨rfl, by first | (left; intro h; cases h) | (right; rfl), fun _ h => ⟨_, h⟩⟩, ?_⟩), rfl⟩
            · try simp only [decide_eq_true_eq, decide_eq_false_iff_not, Bool.not_eq_true, Bool.not_eq_false, Bool.not_eq_true', Bool.not_eq_false', beq_iff_eq, bne_iff_ne, beq_eq_false_iff_ne, bne_eq_false_iff_eq, Int.not_lt, Int.not_le, ge_iff_le, gt_iff_lt] at h40
              refine AW_condT rfl ?_
              refine AW_seq ?_
              refine AW_region ?_
              refine AL_p (x_assign rfl rfl) ?_
              refine AL_nil ?_
              refine AW_ret (BQ_ret (BQ_ret ?_))
              exact ⟨rn [], ⟨⟨⟨_, rfl, vle_bool (by first | exact (relOk_range (by omega)).symm | exact (relOk_bad (k := k) (by omega) (rowAt_len (by omega) (by omega))).symm | exact (relOk_bad (k := k) (by omega) (rowAt_row (by omega) h40)).symm | exact (relOk_bad (k := k) (by omega) (rowAt_order (by omega) (by omega) (by rw [← rowOrder_lt hprev h40]; exact h58))).symm | exact (relOk_good hs (by omega) (by omega) (by omega) (by omega)).symm)⟩, trivial⟩, trivial, trivial, rfl⟩⟩
        · try simp only [decide_eq_true_eq, decide_eq_false_iff_not, Bool.not_eq_true, Bool.not_eq_false, Bool.not_eq_true', Bool.not_eq_false', beq_iff_eq, bne_iff_ne, beq_eq_false_iff_ne, bne_eq_false_iff_eq, Int.not_lt, Int.not_le, ge_iff_le, gt_iff_lt] at h22
          refine AW_condF rfl ?_
          refine AW_exit (BQ_hit ?_)
          refine AW_seq ?_
          refine AW_region ?_
          refine AL_p (x_assign rfl rfl) ?_
          refine AL_nil ?_
          refine AW_ret ?_
          exact ⟨rn [], ⟨⟨⟨_, rfl, vle_bool (by first | exact (relOk_range (by omega)).symm | exact (relOk_bad (k := k) (by omega) (rowAt_len (by omega) (by omega))).symm | exact (relOk_bad (k := k) (by omega) (rowAt_row (by omega) h40)).symm | exact (relOk_bad (k := k) (by omega) (rowAt_order (by omega) (by omega) (by rw [← rowOrder_lt hprev h40]; exact h58))).symm | exact (relOk_good hs (by omega) (by omega) (by omega) (by omega)).symm)⟩, trivial⟩, trivial, trivial, rfl⟩⟩

set_option maxHeartbeats 4000000 in
theorem relOkI_c (r : Relt) (hl : r.rows.length ≤ 1048576) : AC Try.prog 62 [.agg (relC r)] [] (.one (.c (.bool (relOk r)))) [] := by
  refine AC_body1 Try.func62 rfl rfl Try.ntmps62 rfl Try.results62 ?_
  refine AW_seq ?_
  refine AW_region ?_
  refine AL_p (x_box 100 rfl rfl rfl rfl rfl rfl rfl) ?_
  refine AL_p (x_assign rfl rfl) ?_
  refine AL_nil ?_
  refine AW_seq ?_
  refine AW_seq ?_
  refine AW_region ?_
  refine AL_p (x_field (off := 1) (o' := 1) rfl rfl rfl (by kernel_rfl) rfl) ?_
  refine AL_p (x_load1 rfl rfl rfl (by kernel_rfl) rfl) ?_
  refine AL_p (x_len (E := 92) (n := 1) rfl rfl (by kernel_rfl)) ?_
  refine AL_p (x_move rfl rfl) ?_
  refine AL_nil ?_
  refine AW_block ?_
  refine AW_loop2 (ι := {q : Nat // q ≤ r.rows.length ∧ GoodTo r.rows r.arity q}) (fun p => [(8, .one (.c (.int .i64 ((p.1) : Int))))]) (fun p => []) [1, 6, 7] [100] (fun p => r.rows.length - (p.1)) ⟨0, ⟨by omega, .zero⟩⟩ (rn []) ?_ ?_
  exact ⟨by (repeat refine ⟨⟨_, rfl, by first | exact VLe.rf | exact vle_int (by dsimp only; omega)⟩, ?_⟩); exact trivial, by (repeat refine ⟨⟨_, rfl, by first | exact BLe.rf | exact BLe.box AllC.rf | exact BLe.arr (by exact rfl)⟩, ?_⟩); exact trivial, by repeat (first | exact trivial | refine ⟨⟨rfl, by first | (left; intro h; cases h) | (right; rfl), fun _ h => ⟨_, h⟩⟩, ?_⟩), rfl⟩
  rintro ⟨k, hinv⟩
  dsimp only
  obtain ⟨hk, hs⟩ := hinv
  refine AW_seq ?_
  refine AW_region ?_
  refine AL_b (x_lss rfl rfl rfl) (fun b9 h9 => ?_)
  refine AL_nil ?_
  refine AW_seq ?_
  cases b9
  rotate_left
  · try simp only [decide_eq_true_eq, decide_eq_false_iff_not, Bool.not_eq_true, Bool.not_eq_false, Bool.not_eq_true', Bool.not_eq_false', beq_iff_eq, bne_iff_ne, beq_eq_false_iff_ne, bne_eq_false_iff_eq, Int.not_lt, Int.not_le, ge_iff_le, gt_iff_lt] at h9
    refine AW_condT rfl ?_
    refine AW_skip ?_
    refine AW_seq ?_
    refine AW_block ?_
    refine AW_seq ?_
    refine AW_region ?_
    refine AL_p (x_move rfl rfl) ?_
    refine AL_p (x_index (E := 92) (n := 1) rfl rfl rfl (by kernel_rfl) rfl rfl (by omega)) ?_
    refine AL_p (x_eloadW (n := 1) rfl rfl (by kernel_rfl) rfl) ?_
    refine AL_p (x_alloc (z := .agg #[.slice none 0 0]) 101 rfl (by kernel_rfl) rfl rfl rfl rfl) ?_
    refine AL_p (x_assign rfl rfl) ?_
    refine AL_p (x_store (n := 1) rfl rfl rfl rfl (by kernel_rfl) rfl rfl rfl) ?_
    refine AL_nil ?_
    refine AW_seq ?_
    refine AW_draw rfl ?_
    refine AL_p (x_loadN (n := 1) rfl rfl rfl (by kernel_rfl) rfl rfl) ?_
    refine AL_b (x_call0 rfl rfl rfl (rowOkI_c _) rfl rfl) (fun b14 h14 => ?_)
    refine AL_p (x_not rfl rfl) ?_
    refine AL_p (x_move rfl rfl) ?_
    cases b14
    rotate_left
    · try simp only [decide_eq_true_eq, decide_eq_false_iff_not, Bool.not_eq_true, Bool.not_eq_false, Bool.not_eq_true', Bool.not_eq_false', beq_iff_eq, bne_iff_ne, beq_eq_false_iff_ne, bne_eq_false_iff_eq, Int.not_lt, Int.not_le, ge_iff_le, gt_iff_lt] at h14
      refine AL_g rfl rfl (x_field (off := 0) (o' := 0) rfl rfl rfl (by kernel_rfl) rfl) ?_
      refine AL_g rfl rfl (x_load1 rfl rfl rfl (by kernel_rfl) rfl) ?_
      refine AL_g rfl rfl (x_len (E := 94) (n := 2) rfl rfl (by kernel_rfl)) ?_
      refine AL_g rfl rfl (x_field (off := 0) (o' := 0) rfl rfl rfl (by kernel_rfl) rfl) ?_
      refine AL_g rfl rfl (x_load1 rfl rfl rfl (by kernel_rfl) rfl) ?_
      refine AL_gb rfl rfl (x_neq rfl rfl rfl) (fun b22 h22 => ?_)
      refine AL_p (x_pickF rfl rfl rfl) ?_
      refine AL_p (x_move rfl rfl) ?_
      cases b22
      rotate_left
      · try simp only [decide_eq_true_eq, decide_eq_false_iff_not, Bool.not_eq_true, Bool.not_eq_false, Bool.not_eq_true', Bool.not_eq_false', beq_iff_eq, bne_iff_ne, beq_eq_false_iff_ne, bne_eq_false_iff_eq, Int.not_lt, Int.not_le, ge_iff_le, gt_iff_lt] at h22
        refine AL_o rfl rfl rfl rfl ?_
        refine AL_o rfl rfl rfl rfl ?_
        refine AL_o rfl rfl rfl rfl ?_
        refine AL_u rfl rfl rfl ?_
        refine AL_u rfl rfl rfl ?_
        refine AL_u rfl rfl rfl ?_
        refine AL_u rfl rfl rfl ?_
        refine AL_u rfl rfl rfl ?_
        refine AL_u rfl rfl rfl ?_
        refine AL_u rfl rfl rfl ?_
        refine AL_u rfl rfl rfl ?_
        refine AL_u rfl rfl rfl ?_
        refine AL_o rfl rfl rfl rfl ?_
        refine AL_p (x_pickT rfl rfl rfl) ?_
        refine AL_nild (by kernel_rfl) ?_
        refine AW_condT rfl ?_
        refine AW_seq ?_
        refine AW_region ?_
        refine AL_p (x_assign rfl rfl) ?_
        refine AL_nil ?_
        refine AW_ret (BQ_ret (BQ_ret ?_))
        exact ⟨rn [], ⟨⟨⟨_, rfl, vle_bool (by first | exact (relOk_bad (k := k) (by omega) (rowAt_row (by omega) h14)).symm | exact (relOk_bad (k := k) (by omega) (rowAt_len (by omega) h22)).symm | exact (relOk_bad (k := k) (by omega) (rowAt_order (by omega) (by omega) (by omega))).symm | exact (relOk_good hs (by omega) (upToB_iff.1 h42).1 (upToB_iff.1 h42).2 (by omega)).symm | exact (relOk_range (by omega)).symm | exact (relOk_range (upToB_not h42 (by omega))).symm)⟩, trivial⟩, trivial, trivial, rfl⟩⟩
      · try simp only [decide_eq_true_eq, decide_eq_false_iff_not, Bool.not_eq_true, Bool.not_eq_false, Bool.not_eq_true', Bool.not_eq_false', beq_iff_eq, bne_iff_ne, beq_eq_false_iff_ne, bne_eq_false_iff_eq, Int.not_lt, Int.not_le, ge_iff_le, gt_iff_lt] at h22
        refine AL_g rfl rfl (x_move rfl rfl) ?_
        refine AL_gb rfl rfl (x_gtr rfl rfl rfl) (fun b26 h26 => ?_)
        refine AL_g rfl rfl (x_move rfl rfl) ?_
        cases b26
        rotate_left
        · try simp only [decide_eq_true_eq, decide_eq_false_iff_not, Bool.not_eq_true, Bool.not_eq_false, Bool.not_eq_true', Bool.not_eq_false', beq_iff_eq, bne_iff_ne, beq_eq_false_iff_ne, bne_eq_false_iff_eq, Int.not_lt, Int.not_le, ge_iff_le, gt_iff_lt] at h26
          refine AL_g rfl rfl (x_field (off := 1) (o' := 1) rfl rfl rfl (by kernel_rfl) rfl) ?_
          refine AL_g rfl rfl (x_load1 rfl rfl rfl (by kernel_rfl) rfl) ?_
          refine AL_g rfl rfl (x_move rfl rfl) ?_
          refine AL_g rfl rfl (x_sub rfl rfl rfl (IntWalk.i64_in _ (by omega))) ?_
          refine AL_g rfl rfl (x_index (E := 92) (n := 1) rfl rfl rfl (by kernel_rfl) rfl (k := k - 1) (by omega) (by omega)) ?_
          refine AL_g rfl rfl (x_eloadW (n := 1) rfl rfl (by kernel_rfl) rfl) ?_
          refine AL_g rfl rfl (x_loadN (n := 1) rfl rfl rfl (by kernel_rfl) rfl rfl) ?_
          refine AL_g rfl rfl (x_call0 rfl rfl rfl (byRow_c _ _ (rowOk_vals (hs.row (by omega) (by omega))) (rowOk_vals h14)) rfl rfl) ?_
          refine AL_gb rfl rfl (x_geq rfl rfl rfl) (fun b36 h36 => ?_)
          refine AL_g rfl rfl (x_pickT rfl rfl rfl) ?_
          refine AL_p (x_pickF rfl rfl rfl) ?_
          refine AL_nild (by kernel_rfl) ?_
          cases b36
          rotate_left
          · try simp only [decide_eq_true_eq, decide_eq_false_iff_not, Bool.not_eq_true, Bool.not_eq_false, Bool.not_eq_true', Bool.not_eq_false', beq_iff_eq, bne_iff_ne, beq_eq_false_iff_ne, bne_eq_false_iff_eq, Int.not_lt, Int.not_le, ge_iff_le, gt_iff_lt] at h36
            refine AW_condT rfl ?_
            refine AW_seq ?_
            refine AW_region ?_
            refine AL_p (x_assign rfl rfl) ?_
            refine AL_nil ?_
            refine AW_ret (BQ_ret (BQ_ret ?_))
            exact ⟨rn [], ⟨⟨⟨_, rfl, vle_bool (by first | exact (relOk_bad (k := k) (by omega) (rowAt_row (by omega) h14)).symm | exact (relOk_bad (k := k) (by omega) (rowAt_len (by omega) h22)).symm | exact (relOk_bad (k := k) (by omega) (rowAt_order (by omega) (by omega) (by omega))).symm | exact (relOk_good hs (by omega) (upToB_iff.1 h42).1 (upToB_iff.1 h42).2 (by omega)).symm | exact (relOk_range (by omega)).symm | exact (relOk_range (upToB_not h42 (by omega))).symm)⟩, trivial⟩, trivial, trivial, rfl⟩⟩
          · try simp only [decide_eq_true_eq, decide_eq_false_iff_not, Bool.not_eq_true, Bool.not_eq_false, Bool.not_eq_true', Bool.not_eq_false', beq_iff_eq, bne_iff_ne, beq_eq_false_iff_ne, bne_eq_false_iff_eq, Int.not_lt, Int.not_le, ge_iff_le, gt_iff_lt] at h36
            have hat := rowAt_next (ar := r.arity) (k := k) (by omega) (by omega) h14 (by omega) (by omega)
            refine AW_condF rfl ?_
            refine AW_skip ?_
            refine AW_region ?_
            refine AL_p (x_add rfl rfl rfl (IntWalk.i64_in _ (by omega))) ?_
            refine AL_p (x_move rfl rfl) ?_
            refine AL_nil ?_
            refine ⟨⟨k + 1, ⟨by omega, hs.succ (by omega) hat⟩⟩, rn [], ?_, by dsimp only; omega⟩
            exact ⟨by (repeat refine ⟨⟨_, rfl, by first | exact VLe.rf | exact vle_int (by dsimp only; omega)⟩, ?_⟩); exact trivial, by (repeat refine ⟨⟨_, rfl, by first | exact BLe.rf | exact BLe.box AllC.rf | exact BLe.arr (by exact rfl)⟩, ?_⟩); exact trivial, by repeat (first | exact trivial | refine ⟨⟨rfl, by first | (left; intro h; cases h) | (right; rfl), fun _ h => ⟨_, h⟩⟩, ?_⟩), rfl⟩
        · try simp only [decide_eq_true_eq, decide_eq_false_iff_not, Bool.not_eq_true, Bool.not_eq_false, Bool.not_eq_true', Bool.not_eq_false', beq_iff_eq, bne_iff_ne, beq_eq_false_iff_ne, bne_eq_false_iff_eq, Int.not_lt, Int.not_le, ge_iff_le, gt_iff_lt] at h26
          have hat := rowAt_first (ar := r.arity) (k := k) (by omega) (by omega) h14 (by omega)
          refine AL_o rfl rfl rfl rfl ?_
          refine AL_o rfl rfl rfl rfl ?_
          refine AL_o rfl rfl rfl rfl ?_
          refine AL_o rfl rfl rfl rfl ?_
          refine AL_o rfl rfl rfl rfl ?_
          refine AL_o rfl rfl rfl rfl ?_
          refine AL_o rfl rfl rfl rfl ?_
          refine AL_o rfl rfl rfl rfl ?_
          refine AL_o rfl rfl rfl rfl ?_
          refine AL_g rfl rfl (x_pickF rfl rfl rfl) ?_
          refine AL_p (x_pickF rfl rfl rfl) ?_
          refine AL_nild (by kernel_rfl) ?_
          refine AW_condF rfl ?_
          refine AW_skip ?_
          refine AW_region ?_
          refine AL_p (x_add rfl rfl rfl (IntWalk.i64_in _ (by omega))) ?_
          refine AL_p (x_move rfl rfl) ?_
          refine AL_nil ?_
          refine ⟨⟨k + 1, ⟨by omega, hs.succ (by omega) hat⟩⟩, rn [], ?_, by dsimp only; omega⟩
          exact ⟨by (repeat refine ⟨⟨_, rfl, by first | exact VLe.rf | exact vle_int (by dsimp only; omega)⟩, ?_⟩); exact trivial, by (repeat refine ⟨⟨_, rfl, by first | exact BLe.rf | exact BLe.box AllC.rf | exact BLe.arr (by exact rfl)⟩, ?_⟩); exact trivial, by repeat (first | exact trivial | refine ⟨⟨rfl, by first | (left; intro h; cases h) | (right; rfl), fun _ h => ⟨_, h⟩⟩, ?_⟩), rfl⟩
    · try simp only [decide_eq_true_eq, decide_eq_false_iff_not, Bool.not_eq_true, Bool.not_eq_false, Bool.not_eq_true', Bool.not_eq_false', beq_iff_eq, bne_iff_ne, beq_eq_false_iff_ne, bne_eq_false_iff_eq, Int.not_lt, Int.not_le, ge_iff_le, gt_iff_lt] at h14
      refine AL_o rfl rfl rfl rfl ?_
      refine AL_o rfl rfl rfl rfl ?_
      refine AL_o rfl rfl rfl rfl ?_
      refine AL_o rfl rfl rfl rfl ?_
      refine AL_o rfl rfl rfl rfl ?_
      refine AL_o rfl rfl rfl rfl ?_
      refine AL_p (x_pickT rfl rfl rfl) ?_
      refine AL_p (x_move rfl rfl) ?_
      refine AL_o rfl rfl rfl rfl ?_
      refine AL_o rfl rfl rfl rfl ?_
      refine AL_o rfl rfl rfl rfl ?_
      refine AL_u rfl rfl rfl ?_
      refine AL_u rfl rfl rfl ?_
      refine AL_u rfl rfl rfl ?_
      refine AL_u rfl rfl rfl ?_
      refine AL_u rfl rfl rfl ?_
      refine AL_u rfl rfl rfl ?_
      refine AL_u rfl rfl rfl ?_
      refine AL_u rfl rfl rfl ?_
      refine AL_u rfl rfl rfl ?_
      refine AL_o rfl rfl rfl rfl ?_
      refine AL_p (x_pickT rfl rfl rfl) ?_
      refine AL_nild (by kernel_rfl) ?_
      refine AW_condT rfl ?_
      refine AW_seq ?_
      refine AW_region ?_
      refine AL_p (x_assign rfl rfl) ?_
      refine AL_nil ?_
      refine AW_ret (BQ_ret (BQ_ret ?_))
      exact ⟨rn [], ⟨⟨⟨_, rfl, vle_bool (by first | exact (relOk_bad (k := k) (by omega) (rowAt_row (by omega) h14)).symm | exact (relOk_bad (k := k) (by omega) (rowAt_len (by omega) h22)).symm | exact (relOk_bad (k := k) (by omega) (rowAt_order (by omega) (by omega) (by omega))).symm | exact (relOk_good hs (by omega) (upToB_iff.1 h42).1 (upToB_iff.1 h42).2 (by omega)).symm | exact (relOk_range (by omega)).symm | exact (relOk_range (upToB_not h42 (by omega))).symm)⟩, trivial⟩, trivial, trivial, rfl⟩⟩
  · try simp only [decide_eq_true_eq, decide_eq_false_iff_not, Bool.not_eq_true, Bool.not_eq_false, Bool.not_eq_true', Bool.not_eq_false', beq_iff_eq, bne_iff_ne, beq_eq_false_iff_ne, bne_eq_false_iff_eq, Int.not_lt, Int.not_le, ge_iff_le, gt_iff_lt] at h9
    refine AW_condF rfl ?_
    refine AW_exit (BQ_hit ?_)
    refine AW_seq ?_
    refine AW_region ?_
    refine AL_p (x_field (off := 0) (o' := 0) rfl rfl rfl (by kernel_rfl) rfl) ?_
    refine AL_p (x_load1 rfl rfl rfl (by kernel_rfl) rfl) ?_
    refine AL_b (x_call0 rfl rfl rfl (upToI_c _ _) rfl rfl) (fun b42 h42 => ?_)
    refine AL_p (x_move rfl rfl) ?_
    cases b42
    rotate_left
    · try simp only [decide_eq_true_eq, decide_eq_false_iff_not, Bool.not_eq_true, Bool.not_eq_false, Bool.not_eq_true', Bool.not_eq_false', beq_iff_eq, bne_iff_ne, beq_eq_false_iff_ne, bne_eq_false_iff_eq, Int.not_lt, Int.not_le, ge_iff_le, gt_iff_lt] at h42
      refine AL_g rfl rfl (x_field (off := 1) (o' := 1) rfl rfl rfl (by kernel_rfl) rfl) ?_
      refine AL_g rfl rfl (x_load1 rfl rfl rfl (by kernel_rfl) rfl) ?_
      refine AL_g rfl rfl (x_len (E := 92) (n := 1) rfl rfl (by kernel_rfl)) ?_
      refine AL_gb rfl rfl (x_leq rfl rfl rfl) (fun b47 h47 => ?_)
      refine AL_p (x_pickT rfl rfl rfl) ?_
      refine AL_p (x_assign rfl rfl) ?_
      refine AL_nil ?_
      refine AW_ret ?_
      cases b47
      rotate_left
      · try simp only [decide_eq_true_eq, decide_eq_false_iff_not, Bool.not_eq_true, Bool.not_eq_false, Bool.not_eq_true', Bool.not_eq_false', beq_iff_eq, bne_iff_ne, beq_eq_false_iff_ne, bne_eq_false_iff_eq, Int.not_lt, Int.not_le, ge_iff_le, gt_iff_lt] at h47
        exact ⟨rn [], ⟨⟨⟨_, rfl, vle_bool (by first | exact (relOk_bad (k := k) (by omega) (rowAt_row (by omega) h14)).symm | exact (relOk_bad (k := k) (by omega) (rowAt_len (by omega) h22)).symm | exact (relOk_bad (k := k) (by omega) (rowAt_order (by omega) (by omega) (by omega))).symm | exact (relOk_good hs (by omega) (upToB_iff.1 h42).1 (upToB_iff.1 h42).2 (by omega)).symm | exact (relOk_range (by omega)).symm | exact (relOk_range (upToB_not h42 (by omega))).symm)⟩, trivial⟩, trivial, trivial, rfl⟩⟩
      · try simp only [decide_eq_true_eq, decide_eq_false_iff_not, Bool.not_eq_true, Bool.not_eq_false, Bool.not_eq_true', Bool.not_eq_false', beq_iff_eq, bne_iff_ne, beq_eq_false_iff_ne, bne_eq_false_iff_eq, Int.not_lt, Int.not_le, ge_iff_le, gt_iff_lt] at h47
        exact ⟨rn [], ⟨⟨⟨_, rfl, vle_bool (by first | exact (relOk_bad (k := k) (by omega) (rowAt_row (by omega) h14)).symm | exact (relOk_bad (k := k) (by omega) (rowAt_len (by omega) h22)).symm | exact (relOk_bad (k := k) (by omega) (rowAt_order (by omega) (by omega) (by omega))).symm | exact (relOk_good hs (by omega) (upToB_iff.1 h42).1 (upToB_iff.1 h42).2 (by omega)).symm | exact (relOk_range (by omega)).symm | exact (relOk_range (upToB_not h42 (by omega))).symm)⟩, trivial⟩, trivial, trivial, rfl⟩⟩
    · try simp only [decide_eq_true_eq, decide_eq_false_iff_not, Bool.not_eq_true, Bool.not_eq_false, Bool.not_eq_true', Bool.not_eq_false', beq_iff_eq, bne_iff_ne, beq_eq_false_iff_ne, bne_eq_false_iff_eq, Int.not_lt, Int.not_le, ge_iff_le, gt_iff_lt] at h42
      refine AL_o rfl rfl rfl rfl ?_
      refine AL_o rfl rfl rfl rfl ?_
      refine AL_o rfl rfl rfl rfl ?_
      refine AL_o rfl rfl rfl rfl ?_
      refine AL_p (x_pickF rfl rfl rfl) ?_
      refine AL_p (x_assign rfl rfl) ?_
      refine AL_nil ?_
      refine AW_ret ?_
      exact ⟨rn [], ⟨⟨⟨_, rfl, vle_bool (by first | exact (relOk_bad (k := k) (by omega) (rowAt_row (by omega) h14)).symm | exact (relOk_bad (k := k) (by omega) (rowAt_len (by omega) h22)).symm | exact (relOk_bad (k := k) (by omega) (rowAt_order (by omega) (by omega) (by omega))).symm | exact (relOk_good hs (by omega) (upToB_iff.1 h42).1 (upToB_iff.1 h42).2 (by omega)).symm | exact (relOk_range (by omega)).symm | exact (relOk_range (upToB_not h42 (by omega))).symm)⟩, trivial⟩, trivial, trivial, rfl⟩⟩
end Go.Proofs.Ytibhoanjglfaoaa

/- Like relations (printed by walk.py) -/
namespace Go.Proofs.Ytibhoanjglfaoaa
open Go.RowKit
set_option linter.unusedVariables false
set_option linter.unusedSimpArgs false
set_option maxRecDepth 100000

set_option maxHeartbeats 4000000 in
theorem twoS_c (a b : Relt) (ha : smallRel a) (hb : smallRel b) : AC Try.prog 125 [.agg (relC a), .agg (relC b)] [] (.one (.c (.bool (two a b)))) [] := by
  refine AC_body1 Try.func125 rfl rfl Try.ntmps125 rfl Try.results125 ?_
  refine AW_seq ?_
  refine AW_region ?_
  refine AL_p (x_box 100 rfl rfl rfl rfl rfl rfl rfl) ?_
  refine AL_p (x_box 101 rfl rfl rfl rfl rfl rfl rfl) ?_
  refine AL_p (x_assign rfl rfl) ?_
  refine AL_nil ?_
  refine AW_seq ?_
  refine AW_region ?_
  refine AL_p (x_loadN (n := 2) rfl rfl rfl (by kernel_rfl) rfl rfl) ?_
  refine AL_b (x_call0 rfl rfl rfl (relOkS_c _ (by first | exact ha.1 | exact hb.1)) rfl rfl) (fun b6 h6 => ?_)
  refine AL_p (x_move rfl rfl) ?_
  cases b6
  rotate_left
  · try simp only [decide_eq_true_eq, decide_eq_false_iff_not, Bool.not_eq_true, Bool.not_eq_false, Bool.not_eq_true', Bool.not_eq_false', beq_iff_eq, bne_iff_ne, beq_eq_false_iff_ne, bne_eq_false_iff_eq, Int.not_lt, Int.not_le, ge_iff_le, gt_iff_lt] at h6
    refine AL_g rfl rfl (x_loadN (n := 2) rfl rfl rfl (by kernel_rfl) rfl rfl) ?_
    refine AL_gb rfl rfl (x_call0 rfl rfl rfl (relOkS_c _ (by first | exact ha.1 | exact hb.1)) rfl rfl) (fun b9 h9 => ?_)
    refine AL_p (x_pickT rfl rfl rfl) ?_
    refine AL_p (x_move rfl rfl) ?_
    cases b9
    rotate_left
    · try simp only [decide_eq_true_eq, decide_eq_false_iff_not, Bool.not_eq_true, Bool.not_eq_false, Bool.not_eq_true', Bool.not_eq_false', beq_iff_eq, bne_iff_ne, beq_eq_false_iff_ne, bne_eq_false_iff_eq, Int.not_lt, Int.not_le, ge_iff_le, gt_iff_lt] at h9
      refine AL_g rfl rfl (x_field (off := 0) (o' := 0) rfl rfl rfl (by kernel_rfl) rfl) ?_
      refine AL_g rfl rfl (x_load1 rfl rfl rfl (by kernel_rfl) rfl) ?_
      refine AL_g rfl rfl (x_field (off := 0) (o' := 0) rfl rfl rfl (by kernel_rfl) rfl) ?_
      refine AL_g rfl rfl (x_load1 rfl rfl rfl (by kernel_rfl) rfl) ?_
      refine AL_gb rfl rfl (x_eql rfl rfl rfl) (fun b16 h16 => ?_)
      refine AL_p (x_pickT rfl rfl rfl) ?_
      refine AL_p (x_assign rfl rfl) ?_
      refine AL_nil ?_
      refine AW_ret ?_
      cases b16
      rotate_left
      · try simp only [decide_eq_true_eq, decide_eq_false_iff_not, Bool.not_eq_true, Bool.not_eq_false, Bool.not_eq_true', Bool.not_eq_false', beq_iff_eq, bne_iff_ne, beq_eq_false_iff_ne, bne_eq_false_iff_eq, Int.not_lt, Int.not_le, ge_iff_le, gt_iff_lt] at h16
        exact ⟨rn [], ⟨⟨⟨_, rfl, vle_bool (by first | exact (two_a h6).symm | exact (two_b h9).symm | ((rw [two_ok h6 h9]; simp [h16])))⟩, trivial⟩, trivial, trivial, rfl⟩⟩
      · try simp only [decide_eq_true_eq, decide_eq_false_iff_not, Bool.not_eq_true, Bool.not_eq_false, Bool.not_eq_true', Bool.not_eq_false', beq_iff_eq, bne_iff_ne, beq_eq_false_iff_ne, bne_eq_false_iff_eq, Int.not_lt, Int.not_le, ge_iff_le, gt_iff_lt] at h16
        exact ⟨rn [], ⟨⟨⟨_, rfl, vle_bool (by first | exact (two_a h6).symm | exact (two_b h9).symm | ((rw [two_ok h6 h9]; simp [h16])))⟩, trivial⟩, trivial, trivial, rfl⟩⟩
    · try simp only [decide_eq_true_eq, decide_eq_false_iff_not, Bool.not_eq_true, Bool.not_eq_false, Bool.not_eq_true', Bool.not_eq_false', beq_iff_eq, bne_iff_ne, beq_eq_false_iff_ne, bne_eq_false_iff_eq, Int.not_lt, Int.not_le, ge_iff_le, gt_iff_lt] at h9
      refine AL_o rfl rfl rfl rfl ?_
      refine AL_o rfl rfl rfl rfl ?_
      refine AL_o rfl rfl rfl rfl ?_
      refine AL_o rfl rfl rfl rfl ?_
      refine AL_o rfl rfl rfl rfl ?_
      refine AL_p (x_pickF rfl rfl rfl) ?_
      refine AL_p (x_assign rfl rfl) ?_
      refine AL_nil ?_
      refine AW_ret ?_
      exact ⟨rn [], ⟨⟨⟨_, rfl, vle_bool (by first | exact (two_a h6).symm | exact (two_b h9).symm | ((rw [two_ok h6 h9]; simp [h16])))⟩, trivial⟩, trivial, trivial, rfl⟩⟩
  · try simp only [decide_eq_true_eq, decide_eq_false_iff_not, Bool.not_eq_true, Bool.not_eq_false, Bool.not_eq_true', Bool.not_eq_false', beq_iff_eq, bne_iff_ne, beq_eq_false_iff_ne, bne_eq_false_iff_eq, Int.not_lt, Int.not_le, ge_iff_le, gt_iff_lt] at h6
    refine AL_o rfl rfl rfl rfl ?_
    refine AL_o rfl rfl rfl rfl ?_
    refine AL_p (x_pickF rfl rfl rfl) ?_
    refine AL_p (x_move rfl rfl) ?_
    refine AL_o rfl rfl rfl rfl ?_
    refine AL_o rfl rfl rfl rfl ?_
    refine AL_o rfl rfl rfl rfl ?_
    refine AL_o rfl rfl rfl rfl ?_
    refine AL_o rfl rfl rfl rfl ?_
    refine AL_p (x_pickF rfl rfl rfl) ?_
    refine AL_p (x_assign rfl rfl) ?_
    refine AL_nil ?_
    refine AW_ret ?_
    exact ⟨rn [], ⟨⟨⟨_, rfl, vle_bool (by first | exact (two_a h6).symm | exact (two_b h9).symm | ((rw [two_ok h6 h9]; simp [h16])))⟩, trivial⟩, trivial, trivial, rfl⟩⟩

set_option maxHeartbeats 4000000 in
theorem sameRelS_c (a b : Relt) (ha : smallRel a) (hb : smallRel b) : AC Try.prog 83 [.agg (relC a), .agg (relC b)] [] (.one (.c (.bool (sameRel a b)))) [] := by
  refine AC_body1 Try.func83 rfl rfl Try.ntmps83 rfl Try.results83 ?_
  refine AW_seq ?_
  refine AW_region ?_
  refine AL_p (x_box 100 rfl rfl rfl rfl rfl rfl rfl) ?_
  refine AL_p (x_box 101 rfl rfl rfl rfl rfl rfl rfl) ?_
  refine AL_p (x_assign rfl rfl) ?_
  refine AL_nil ?_
  refine AW_seq ?_
  refine AW_seq ?_
  refine AW_region ?_
  refine AL_p (x_loadN (n := 2) rfl rfl rfl (by kernel_rfl) rfl rfl) ?_
  refine AL_p (x_loadN (n := 2) rfl rfl rfl (by kernel_rfl) rfl rfl) ?_
  refine AL_b (x_call0 rfl rfl rfl (twoS_c _ _ ha hb) rfl rfl) (fun b8 h8 => ?_)
  refine AL_p (x_not rfl rfl) ?_
  refine AL_p (x_move rfl rfl) ?_
  cases b8
  rotate_left
  · try simp only [decide_eq_true_eq, decide_eq_false_iff_not, Bool.not_eq_true, Bool.not_eq_false, Bool.not_eq_true', Bool.not_eq_false', beq_iff_eq, bne_iff_ne, beq_eq_false_iff_ne, bne_eq_false_iff_eq, Int.not_lt, Int.not_le, ge_iff_le, gt_iff_lt] at h8
    refine AL_g rfl rfl (x_field (off := 1) (o' := 1) rfl rfl rfl (by kernel_rfl) rfl) ?_
    refine AL_g rfl rfl (x_load1 rfl rfl rfl (by kernel_rfl) rfl) ?_
    refine AL_g rfl rfl (x_len (E := 92) (n := 1) rfl rfl (by kernel_rfl)) ?_
    refine AL_g rfl rfl (x_field (off := 1) (o' := 1) rfl rfl rfl (by kernel_rfl) rfl) ?_
    refine AL_g rfl rfl (x_load1 rfl rfl rfl (by kernel_rfl) rfl) ?_
    refine AL_g rfl rfl (x_len (E := 92) (n := 1) rfl rfl (by kernel_rfl)) ?_
    refine AL_gb rfl rfl (x_neq rfl rfl rfl) (fun b17 h17 => ?_)
    refine AL_p (x_pickF rfl rfl rfl) ?_
    refine AL_nil ?_
    cases b17
    rotate_left
    · try simp only [decide_eq_true_eq, decide_eq_false_iff_not, Bool.not_eq_true, Bool.not_eq_false, Bool.not_eq_true', Bool.not_eq_false', beq_iff_eq, bne_iff_ne, beq_eq_false_iff_ne, bne_eq_false_iff_eq, Int.not_lt, Int.not_le, ge_iff_le, gt_iff_lt] at h17
      refine AW_condT rfl ?_
      refine AW_seq ?_
      refine AW_region ?_
      refine AL_p (x_assign rfl rfl) ?_
      refine AL_nil ?_
      refine AW_ret ?_
      exact ⟨rn [], ⟨⟨⟨_, rfl, vle_bool (by first | exact (sameRel_two h8).symm | exact (sameRel_rows (sameRows_len (by omega))).symm | exact (sameRel_rows (sameRows_at (k := k) (by omega) (by omega) h35)).symm | exact (sameRel_yes h8 (sameRows_eq (hs.eq (by omega) (by omega)))).symm)⟩, trivial⟩, trivial, trivial, rfl⟩⟩
    · try simp only [decide_eq_true_eq, decide_eq_false_iff_not, Bool.not_eq_true, Bool.not_eq_false, Bool.not_eq_true', Bool.not_eq_false', beq_iff_eq, bne_iff_ne, beq_eq_false_iff_ne, bne_eq_false_iff_eq, Int.not_lt, Int.not_le, ge_iff_le, gt_iff_lt] at h17
      refine AW_condF rfl ?_
      refine AW_skip ?_
      refine AW_seq ?_
      refine AW_seq ?_
      refine AW_region ?_
      refine AL_p (x_field (off := 1) (o' := 1) rfl rfl rfl (by kernel_rfl) rfl) ?_
      refine AL_p (x_load1 rfl rfl rfl (by kernel_rfl) rfl) ?_
      refine AL_p (x_len (E := 92) (n := 1) rfl rfl (by kernel_rfl)) ?_
      refine AL_p (x_move rfl rfl) ?_
      refine AL_nil ?_
      refine AW_block ?_
      refine AW_loop2 (ι := {q : Nat // q ≤ a.rows.length ∧ LikeTo a.rows b.rows q}) (fun p => [(22, .one (.c (.int .i64 ((p.1) : Int))))]) (fun p => []) [2, 3, 21] [100, 101] (fun p => a.rows.length - (p.1)) ⟨0, ⟨by have := ha.1; omega, .zero⟩⟩ (rn []) ?_ ?_
      exact ⟨by (repeat refine ⟨⟨_, rfl, by first | exact VLe.rf | exact vle_int (by dsimp only; omega)⟩, ?_⟩); exact trivial, by (repeat refine ⟨⟨_, rfl, by first | exact BLe.rf | exact BLe.box AllC.rf | exact BLe.arr (by exact rfl)⟩, ?_⟩); exact trivial, by repeat (first | exact trivial | refine ⟨⟨rfl, by first | (left; intro h; cases h) | (right; rfl), fun _ h => ⟨_, h⟩⟩, ?_⟩), rfl⟩
      rintro ⟨k, hinv⟩
      dsimp only
      obtain ⟨hk, hs⟩ := hinv
      have hl := ha.1
      refine AW_seq ?_
      refine AW_region ?_
      refine AL_b (x_lss rfl rfl rfl) (fun b23 h23 => ?_)
      refine AL_nil ?_
      refine AW_seq ?_
      cases b23
      rotate_left
      · try simp only [decide_eq_true_eq, decide_eq_false_iff_not, Bool.not_eq_true, Bool.not_eq_false, Bool.not_eq_true', Bool.not_eq_false', beq_iff_eq, bne_iff_ne, beq_eq_false_iff_ne, bne_eq_false_iff_eq, Int.not_lt, Int.not_le, ge_iff_le, gt_iff_lt] at h23
        refine AW_condT rfl ?_
        refine AW_skip ?_
        refine AW_seq ?_
        refine AW_block ?_
        refine AW_seq ?_
        refine AW_region ?_
        refine AL_p (x_move rfl rfl) ?_
        refine AL_p (x_assign rfl rfl) ?_
        refine AL_nil ?_
        refine AW_seq ?_
        refine AW_draw rfl ?_
        refine AL_p (x_field (off := 1) (o' := 1) rfl rfl rfl (by kernel_rfl) rfl) ?_
        refine AL_p (x_load1 rfl rfl rfl (by kernel_rfl) rfl) ?_
        refine AL_p (x_move rfl rfl) ?_
        refine AL_p (x_index (E := 92) (n := 1) rfl rfl rfl (by kernel_rfl) rfl (k := k) (by omega) (by omega)) ?_
        refine AL_p (x_eloadW (n := 1) rfl rfl (by kernel_rfl) rfl) ?_
        refine AL_p (x_field (off := 1) (o' := 1) rfl rfl rfl (by kernel_rfl) rfl) ?_
        refine AL_p (x_load1 rfl rfl rfl (by kernel_rfl) rfl) ?_
        refine AL_p (x_move rfl rfl) ?_
        refine AL_p (x_index (E := 92) (n := 1) rfl rfl rfl (by kernel_rfl) rfl (k := k) (by omega) (by omega)) ?_
        refine AL_p (x_eloadW (n := 1) rfl rfl (by kernel_rfl) rfl) ?_
        refine AL_b (x_call0 rfl rfl rfl (sameRowS_c _ _ (ha.2 _ (List.getElem_mem _)).1) rfl rfl) (fun b35 h35 => ?_)
        refine AL_p (x_not rfl rfl) ?_
        refine AL_nild (by kernel_rfl) ?_
        cases b35
        rotate_left
        · try simp only [decide_eq_true_eq, decide_eq_false_iff_not, Bool.not_eq_true, Bool.not_eq_false, Bool.not_eq_true', Bool.not_eq_false', beq_iff_eq, bne_iff_ne, beq_eq_false_iff_ne, bne_eq_false_iff_eq, Int.not_lt, Int.not_le, ge_iff_le, gt_iff_lt] at h35
          refine AW_condF rfl ?_
          refine AW_skip ?_
          refine AW_region ?_
          refine AL_p (x_add rfl rfl rfl (IntWalk.i64_in _ (by omega))) ?_
          refine AL_p (x_move rfl rfl) ?_
          refine AL_nil ?_
          refine ⟨⟨k + 1, ⟨by omega, hs.succ (by omega) (by omega) (sameRow_iff.1 h35)⟩⟩, rn [], ?_, by dsimp only; omega⟩
          exact ⟨by (repeat refine ⟨⟨_, rfl, by first | exact VLe.rf | exact vle_int (by dsimp only; omega)⟩, ?_⟩); exact trivial, by (repeat refine ⟨⟨_, rfl, by first | exact BLe.rf | exact BLe.box AllC.rf | exact BLe.arr (by exact rfl)⟩, ?_⟩); exact trivial, by repeat (first | exact trivial | refine ⟨⟨rfl, by first | (left; intro h; cases h) | (right; rfl), fun _ h => ⟨_, h⟩⟩, ?_⟩), rfl⟩
        · try simp only [decide_eq_true_eq, decide_eq_false_iff_not, Bool.not_eq_true, Bool.not_eq_false, Bool.not_eq_true', Bool.not_eq_false', beq_iff_eq, bne_iff_ne, beq_eq_false_iff_ne, bne_eq_false_iff_eq, Int.not_lt, Int.not_le, ge_iff_le, gt_iff_lt] at h35
          refine AW_condT rfl ?_
          refine AW_seq ?_
          refine AW_region ?_
          refine AL_p (x_assign rfl rfl) ?_
          refine AL_nil ?_
          refine AW_ret (BQ_ret (BQ_ret ?_))
          exact ⟨rn [], ⟨⟨⟨_, rfl, vle_bool (by first | exact (sameRel_two h8).symm | exact (sameRel_rows (sameRows_len (by omega))).symm | exact (sameRel_rows (sameRows_at (k := k) (by omega) (by omega) h35)).symm | exact (sameRel_yes h8 (sameRows_eq (hs.eq (by omega) (by omega)))).symm)⟩, trivial⟩, trivial, trivial, rfl⟩⟩
      · try simp only [decide_eq_true_eq, decide_eq_false_iff_not, Bool.not_eq_true, Bool.not_eq_false, Bool.not_eq_true', Bool.not_eq_false', beq_iff_eq, bne_iff_ne, beq_eq_false_iff_ne, bne_eq_false_iff_eq, Int.not_lt, Int.not_le, ge_iff_le, gt_iff_lt] at h23
        refine AW_condF rfl ?_
        refine AW_exit (BQ_hit ?_)
        refine AW_seq ?_
        refine AW_region ?_
        refine AL_p (x_assign rfl rfl) ?_
        refine AL_nil ?_
        refine AW_ret ?_
        exact ⟨rn [], ⟨⟨⟨_, rfl, vle_bool (by first | exact (sameRel_two h8).symm | exact (sameRel_rows (sameRows_len (by omega))).symm | exact (sameRel_rows (sameRows_at (k := k) (by omega) (by omega) h35)).symm | exact (sameRel_yes h8 (sameRows_eq (hs.eq (by omega) (by omega)))).symm)⟩, trivial⟩, trivial, trivial, rfl⟩⟩
  · try simp only [decide_eq_true_eq, decide_eq_false_iff_not, Bool.not_eq_true, Bool.not_eq_false, Bool.not_eq_true', Bool.not_eq_false', beq_iff_eq, bne_iff_ne, beq_eq_false_iff_ne, bne_eq_false_iff_eq, Int.not_lt, Int.not_le, ge_iff_le, gt_iff_lt] at h8
    refine AL_o rfl rfl rfl rfl ?_
    refine AL_o rfl rfl rfl rfl ?_
    refine AL_o rfl rfl rfl rfl ?_
    refine AL_o rfl rfl rfl rfl ?_
    refine AL_o rfl rfl rfl rfl ?_
    refine AL_o rfl rfl rfl rfl ?_
    refine AL_o rfl rfl rfl rfl ?_
    refine AL_p (x_pickT rfl rfl rfl) ?_
    refine AL_nil ?_
    refine AW_condT rfl ?_
    refine AW_seq ?_
    refine AW_region ?_
    refine AL_p (x_assign rfl rfl) ?_
    refine AL_nil ?_
    refine AW_ret ?_
    exact ⟨rn [], ⟨⟨⟨_, rfl, vle_bool (by first | exact (sameRel_two h8).symm | exact (sameRel_rows (sameRows_len (by omega))).symm | exact (sameRel_rows (sameRows_at (k := k) (by omega) (by omega) h35)).symm | exact (sameRel_yes h8 (sameRows_eq (hs.eq (by omega) (by omega)))).symm)⟩, trivial⟩, trivial, trivial, rfl⟩⟩

set_option maxHeartbeats 4000000 in
theorem eqVals_c (a b : List Val) (ha : a.length ≤ 1048576) : AC Try.prog 172 [.one (.sl valE a), .one (.sl valE b)] [] (.one (.c (.bool (sameRow a b)))) [] := by
  refine AC_body1 Try.func172 rfl rfl Try.ntmps172 rfl Try.results172 ?_
  refine AW_seq ?_
  refine AW_region ?_
  refine AL_p (x_assign rfl rfl) ?_
  refine AL_nil ?_
  refine AW_seq ?_
  refine AW_seq ?_
  refine AW_region ?_
  refine AL_p (x_move rfl rfl) ?_
  refine AL_p (x_len (E := 94) (n := 2) rfl rfl (by kernel_rfl)) ?_
  refine AL_p (x_move rfl rfl) ?_
  refine AL_p (x_len (E := 94) (n := 2) rfl rfl (by kernel_rfl)) ?_
  refine AL_b (x_neq rfl rfl rfl) (fun b10 h10 => ?_)
  refine AL_nil ?_
  cases b10
  rotate_left
  · try simp only [decide_eq_true_eq, decide_eq_false_iff_not, Bool.not_eq_true, Bool.not_eq_false, Bool.not_eq_true', Bool.not_eq_false', beq_iff_eq, bne_iff_ne, beq_eq_false_iff_ne, bne_eq_false_iff_eq, Int.not_lt, Int.not_le, ge_iff_le, gt_iff_lt] at h10
    refine AW_condT rfl ?_
    refine AW_seq ?_
    refine AW_region ?_
    refine AL_p (x_assign rfl rfl) ?_
    refine AL_nil ?_
    refine AW_ret ?_
    exact ⟨rn [], ⟨⟨⟨_, rfl, vle_bool (by first | exact (sameRow_len (by omega)).symm | exact (sameRow_at (k := k) (by omega) (by omega) h24).symm | exact (sameRow_eq (hs.eq (by omega) (by omega))).symm)⟩, trivial⟩, trivial, trivial, rfl⟩⟩
  · try simp only [decide_eq_true_eq, decide_eq_false_iff_not, Bool.not_eq_true, Bool.not_eq_false, Bool.not_eq_true', Bool.not_eq_false', beq_iff_eq, bne_iff_ne, beq_eq_false_iff_ne, bne_eq_false_iff_eq, Int.not_lt, Int.not_le, ge_iff_le, gt_iff_lt] at h10
    refine AW_condF rfl ?_
    refine AW_skip ?_
    refine AW_seq ?_
    refine AW_seq ?_
    refine AW_region ?_
    refine AL_p (x_move rfl rfl) ?_
    refine AL_p (x_len (E := 94) (n := 2) rfl rfl (by kernel_rfl)) ?_
    refine AL_p (x_move rfl rfl) ?_
    refine AL_nil ?_
    refine AW_block ?_
    refine AW_loop2 (ι := {q : Nat // q ≤ a.length ∧ SameTo a b q}) (fun p => [(13, .one (.c (.int .i64 ((p.1) : Int))))]) (fun p => []) [0, 1, 12] [] (fun p => a.length - (p.1)) ⟨0, ⟨by omega, .zero⟩⟩ (rn []) ?_ ?_
    exact ⟨by (repeat refine ⟨⟨_, rfl, by first | exact VLe.rf | exact vle_int (by dsimp only; omega)⟩, ?_⟩); exact trivial, by (repeat refine ⟨⟨_, rfl, by first | exact BLe.rf | exact BLe.box AllC.rf | exact BLe.arr (by exact rfl)⟩, ?_⟩); exact trivial, by repeat (first | exact trivial | refine ⟨⟨rfl, by first | (left; intro h; cases h) | (right; rfl), fun _ h => ⟨_, h⟩⟩, ?_⟩), rfl⟩
    rintro ⟨k, hinv⟩
    dsimp only
    obtain ⟨hk, hs⟩ := hinv
    refine AW_seq ?_
    refine AW_region ?_
    refine AL_b (x_lss rfl rfl rfl) (fun b14 h14 => ?_)
    refine AL_nil ?_
    refine AW_seq ?_
    cases b14
    rotate_left
    · try simp only [decide_eq_true_eq, decide_eq_false_iff_not, Bool.not_eq_true, Bool.not_eq_false, Bool.not_eq_true', Bool.not_eq_false', beq_iff_eq, bne_iff_ne, beq_eq_false_iff_ne, bne_eq_false_iff_eq, Int.not_lt, Int.not_le, ge_iff_le, gt_iff_lt] at h14
      refine AW_condT rfl ?_
      refine AW_skip ?_
      refine AW_seq ?_
      refine AW_block ?_
      refine AW_seq ?_
      refine AW_region ?_
      refine AL_p (x_move rfl rfl) ?_
      refine AL_p (x_assign rfl rfl) ?_
      refine AL_nil ?_
      refine AW_seq ?_
      refine AW_draw rfl ?_
      refine AL_p (x_move rfl rfl) ?_
      refine AL_p (x_move rfl rfl) ?_
      refine AL_p (x_index (E := 94) (n := 2) rfl rfl rfl (by kernel_rfl) rfl rfl (by omega)) ?_
      refine AL_p (x_eloadW (n := 2) rfl rfl (by kernel_rfl) rfl) ?_
      refine AL_p (x_move rfl rfl) ?_
      refine AL_p (x_move rfl rfl) ?_
      refine AL_p (x_index (E := 94) (n := 2) rfl rfl rfl (by kernel_rfl) rfl rfl (by omega)) ?_
      refine AL_p (x_eloadW (n := 2) rfl rfl (by kernel_rfl) rfl) ?_
      refine AL_b (x_vneq rfl rfl rfl) (fun b24 h24 => ?_)
      refine AL_nild (by kernel_rfl) ?_
      cases b24
      rotate_left
      · try simp only [decide_eq_true_eq, decide_eq_false_iff_not, Bool.not_eq_true, Bool.not_eq_false, Bool.not_eq_true', Bool.not_eq_false', beq_iff_eq, bne_iff_ne, beq_eq_false_iff_ne, bne_eq_false_iff_eq, Int.not_lt, Int.not_le, ge_iff_le, gt_iff_lt] at h24
        refine AW_condT rfl ?_
        refine AW_seq ?_
        refine AW_region ?_
        refine AL_p (x_assign rfl rfl) ?_
        refine AL_nil ?_
        refine AW_ret (BQ_ret (BQ_ret ?_))
        exact ⟨rn [], ⟨⟨⟨_, rfl, vle_bool (by first | exact (sameRow_len (by omega)).symm | exact (sameRow_at (k := k) (by omega) (by omega) h24).symm | exact (sameRow_eq (hs.eq (by omega) (by omega))).symm)⟩, trivial⟩, trivial, trivial, rfl⟩⟩
      · try simp only [decide_eq_true_eq, decide_eq_false_iff_not, Bool.not_eq_true, Bool.not_eq_false, Bool.not_eq_true', Bool.not_eq_false', beq_iff_eq, bne_iff_ne, beq_eq_false_iff_ne, bne_eq_false_iff_eq, Int.not_lt, Int.not_le, ge_iff_le, gt_iff_lt] at h24
        refine AW_condF rfl ?_
        refine AW_skip ?_
        refine AW_region ?_
        refine AL_p (x_add rfl rfl rfl (IntWalk.i64_in _ (by omega))) ?_
        refine AL_p (x_move rfl rfl) ?_
        refine AL_nil ?_
        refine ⟨⟨k + 1, ⟨by omega, hs.succ (by omega) (by omega) h24⟩⟩, rn [], ?_, by dsimp only; omega⟩
        exact ⟨by (repeat refine ⟨⟨_, rfl, by first | exact VLe.rf | exact vle_int (by dsimp only; omega)⟩, ?_⟩); exact trivial, by (repeat refine ⟨⟨_, rfl, by first | exact BLe.rf | exact BLe.box AllC.rf | exact BLe.arr (by exact rfl)⟩, ?_⟩); exact trivial, by repeat (first | exact trivial | refine ⟨⟨rfl, by first | (left; intro h; cases h) | (right; rfl), fun _ h => ⟨_, h⟩⟩, ?_⟩), rfl⟩
    · try simp only [decide_eq_true_eq, decide_eq_false_iff_not, Bool.not_eq_true, Bool.not_eq_false, Bool.not_eq_true', Bool.not_eq_false', beq_iff_eq, bne_iff_ne, beq_eq_false_iff_ne, bne_eq_false_iff_eq, Int.not_lt, Int.not_le, ge_iff_le, gt_iff_lt] at h14
      refine AW_condF rfl ?_
      refine AW_exit (BQ_hit ?_)
      refine AW_seq ?_
      refine AW_region ?_
      refine AL_p (x_assign rfl rfl) ?_
      refine AL_nil ?_
      refine AW_ret ?_
      exact ⟨rn [], ⟨⟨⟨_, rfl, vle_bool (by first | exact (sameRow_len (by omega)).symm | exact (sameRow_at (k := k) (by omega) (by omega) h24).symm | exact (sameRow_eq (hs.eq (by omega) (by omega))).symm)⟩, trivial⟩, trivial, trivial, rfl⟩⟩

set_option maxHeartbeats 4000000 in
theorem sameRowI_c (a b : List Val) (ha : a.length ≤ 1048576) : AC Try.prog 158 [.agg (rowC a), .agg (rowC b)] [] (.one (.c (.bool (sameRow a b)))) [] := by
  refine AC_body1 Try.func158 rfl rfl Try.ntmps158 rfl Try.results158 ?_
  refine AW_seq ?_
  refine AW_region ?_
  refine AL_p (x_box 100 rfl rfl rfl rfl rfl rfl rfl) ?_
  refine AL_p (x_box 101 rfl rfl rfl rfl rfl rfl rfl) ?_
  refine AL_p (x_assign rfl rfl) ?_
  refine AL_nil ?_
  refine AW_seq ?_
  refine AW_region ?_
  refine AL_p (x_field (off := 0) (o' := 0) rfl rfl rfl (by kernel_rfl) rfl) ?_
  refine AL_p (x_load1 rfl rfl rfl (by kernel_rfl) rfl) ?_
  refine AL_p (x_field (off := 0) (o' := 0) rfl rfl rfl (by kernel_rfl) rfl) ?_
  refine AL_p (x_load1 rfl rfl rfl (by kernel_rfl) rfl) ?_
  refine AL_b (x_call0 rfl rfl rfl (eqVals_c _ _ ha) rfl rfl) (fun b9 h9 => ?_)
  refine AL_p (x_assign rfl rfl) ?_
  refine AL_nil ?_
  refine AW_ret ?_
  cases b9
  rotate_left
  · try simp only [decide_eq_true_eq, decide_eq_false_iff_not, Bool.not_eq_true, Bool.not_eq_false, Bool.not_eq_true', Bool.not_eq_false', beq_iff_eq, bne_iff_ne, beq_eq_false_iff_ne, bne_eq_false_iff_eq, Int.not_lt, Int.not_le, ge_iff_le, gt_iff_lt] at h9
    exact ⟨rn [], ⟨⟨⟨_, rfl, vle_bool (h9.symm)⟩, trivial⟩, trivial, trivial, rfl⟩⟩
  · try simp only [decide_eq_true_eq, decide_eq_false_iff_not, Bool.not_eq_true, Bool.not_eq_false, Bool.not_eq_true', Bool.not_eq_false', beq_iff_eq, bne_iff_ne, beq_eq_false_iff_ne, bne_eq_false_iff_eq, Int.not_lt, Int.not_le, ge_iff_le, gt_iff_lt] at h9
    exact ⟨rn [], ⟨⟨⟨_, rfl, vle_bool (h9.symm)⟩, trivial⟩, trivial, trivial, rfl⟩⟩

set_option maxHeartbeats 4000000 in
theorem eqRows_c (a b : List (List Val)) (ha : a.length ≤ 1048576) (hm : ∀ r ∈ a, r.length ≤ 1048576) : AC Try.prog 157 [.one (.sl rowE a), .one (.sl rowE b), .one (.clo 158 [])] [] (.one (.c (.bool (sameRows a b)))) [] := by
  refine AC_body1 Try.func157 rfl rfl Try.ntmps157 rfl Try.results157 ?_
  refine AW_seq ?_
  refine AW_region ?_
  refine AL_p (x_assign rfl rfl) ?_
  refine AL_nil ?_
  refine AW_seq ?_
  refine AW_seq ?_
  refine AW_region ?_
  refine AL_p (x_move rfl rfl) ?_
  refine AL_p (x_len (E := 92) (n := 1) rfl rfl (by kernel_rfl)) ?_
  refine AL_p (x_move rfl rfl) ?_
  refine AL_p (x_len (E := 92) (n := 1) rfl rfl (by kernel_rfl)) ?_
  refine AL_b (x_neq rfl rfl rfl) (fun b14 h14 => ?_)
  refine AL_nil ?_
  cases b14
  rotate_left
  · try simp only [decide_eq_true_eq, decide_eq_false_iff_not, Bool.not_eq_true, Bool.not_eq_false, Bool.not_eq_true', Bool.not_eq_false', beq_iff_eq, bne_iff_ne, beq_eq_false_iff_ne, bne_eq_false_iff_eq, Int.not_lt, Int.not_le, ge_iff_le, gt_iff_lt] at h14
    refine AW_condT rfl ?_
    refine AW_seq ?_
    refine AW_region ?_
    refine AL_p (x_assign rfl rfl) ?_
    refine AL_nil ?_
    refine AW_ret ?_
    exact ⟨rn [], ⟨⟨⟨_, rfl, vle_bool (by first | exact (sameRows_len (by omega)).symm | exact (sameRows_at (k := k) (by omega) (by omega) h29).symm | exact (sameRows_eq (hs.eq (by omega) (by omega))).symm)⟩, trivial⟩, trivial, trivial, rfl⟩⟩
  · try simp only [decide_eq_true_eq, decide_eq_false_iff_not, Bool.not_eq_true, Bool.not_eq_false, Bool.not_eq_true', Bool.not_eq_false', beq_iff_eq, bne_iff_ne, beq_eq_false_iff_ne, bne_eq_false_iff_eq, Int.not_lt, Int.not_le, ge_iff_le, gt_iff_lt] at h14
    refine AW_condF rfl ?_
    refine AW_skip ?_
    refine AW_seq ?_
    refine AW_seq ?_
    refine AW_region ?_
    refine AL_p (x_move rfl rfl) ?_
    refine AL_p (x_len (E := 92) (n := 1) rfl rfl (by kernel_rfl)) ?_
    refine AL_p (x_move rfl rfl) ?_
    refine AL_nil ?_
    refine AW_block ?_
    refine AW_loop2 (ι := {q : Nat // q ≤ a.length ∧ LikeTo a b q}) (fun p => [(17, .one (.c (.int .i64 ((p.1) : Int))))]) (fun p => []) [1, 2, 15, 16] [] (fun p => a.length - (p.1)) ⟨0, ⟨by omega, .zero⟩⟩ (rn []) ?_ ?_
    exact ⟨by (repeat refine ⟨⟨_, rfl, by first | exact VLe.rf | exact vle_int (by dsimp only; omega)⟩, ?_⟩); exact trivial, by (repeat refine ⟨⟨_, rfl, by first | exact BLe.rf | exact BLe.box AllC.rf | exact BLe.arr (by exact rfl)⟩, ?_⟩); exact trivial, by repeat (first | exact trivial | refine ⟨⟨rfl, by first | (left; intro h; cases h) | (right; rfl), fun _ h => ⟨_, h⟩⟩, ?_⟩), rfl⟩
    rintro ⟨k, hinv⟩
    dsimp only
    obtain ⟨hk, hs⟩ := hinv
    refine AW_seq ?_
    refine AW_region ?_
    refine AL_b (x_lss rfl rfl rfl) (fun b18 h18 => ?_)
    refine AL_nil ?_
    refine AW_seq ?_
    cases b18
    rotate_left
    · try simp only [decide_eq_true_eq, decide_eq_false_iff_not, Bool.not_eq_true, Bool.not_eq_false, Bool.not_eq_true', Bool.not_eq_false', beq_iff_eq, bne_iff_ne, beq_eq_false_iff_ne, bne_eq_false_iff_eq, Int.not_lt, Int.not_le, ge_iff_le, gt_iff_lt] at h18
      refine AW_condT rfl ?_
      refine AW_skip ?_
      refine AW_seq ?_
      refine AW_block ?_
      refine AW_seq ?_
      refine AW_region ?_
      refine AL_p (x_move rfl rfl) ?_
      refine AL_p (x_index (E := 92) (n := 1) rfl rfl rfl (by kernel_rfl) rfl rfl (by omega)) ?_
      refine AL_p (x_eloadW (n := 1) rfl rfl (by kernel_rfl) rfl) ?_
      refine AL_p (x_alloc (z := .agg #[.slice none 0 0]) 100 rfl (by kernel_rfl) rfl rfl rfl rfl) ?_
      refine AL_p (x_assign rfl rfl) ?_
      refine AL_p (x_store (n := 1) rfl rfl rfl rfl (by kernel_rfl) rfl rfl rfl) ?_
      refine AL_nil ?_
      refine AW_seq ?_
      refine AW_region ?_
      refine AL_p (x_move rfl rfl) ?_
      refine AL_p (x_move rfl rfl) ?_
      refine AL_p (x_index (E := 92) (n := 1) rfl rfl rfl (by kernel_rfl) rfl (k := k) (by omega) (by omega)) ?_
      refine AL_p (x_eloadW (n := 1) rfl rfl (by kernel_rfl) rfl) ?_
      refine AL_p (x_alloc (z := .agg #[.slice none 0 0]) 101 rfl (by kernel_rfl) rfl rfl rfl rfl) ?_
      refine AL_p (x_store (n := 1) rfl rfl rfl rfl (by kernel_rfl) rfl rfl rfl) ?_
      refine AL_nil ?_
      refine AW_seq ?_
      refine AW_region ?_
      refine AL_p (x_move rfl rfl) ?_
      refine AL_p (x_loadN (n := 1) rfl rfl rfl (by kernel_rfl) rfl rfl) ?_
      refine AL_p (x_loadN (n := 1) rfl rfl rfl (by kernel_rfl) rfl rfl) ?_
      refine AL_b (x_call0 rfl rfl rfl (sameRowI_c _ _ (hm _ (List.getElem_mem _))) rfl rfl) (fun b29 h29 => ?_)
      refine AL_p (x_not rfl rfl) ?_
      refine AL_nil ?_
      cases b29
      rotate_left
      · try simp only [decide_eq_true_eq, decide_eq_false_iff_not, Bool.not_eq_true, Bool.not_eq_false, Bool.not_eq_true', Bool.not_eq_false', beq_iff_eq, bne_iff_ne, beq_eq_false_iff_ne, bne_eq_false_iff_eq, Int.not_lt, Int.not_le, ge_iff_le, gt_iff_lt] at h29
        refine AW_condF rfl ?_
        refine AW_skip ?_
        refine AW_region ?_
        refine AL_p (x_add rfl rfl rfl (IntWalk.i64_in _ (by omega))) ?_
        refine AL_p (x_move rfl rfl) ?_
        refine AL_nil ?_
        refine ⟨⟨k + 1, ⟨by omega, hs.succ (by omega) (by omega) (sameRow_iff.1 h29)⟩⟩, rn [], ?_, by dsimp only; omega⟩
        exact ⟨by (repeat refine ⟨⟨_, rfl, by first | exact VLe.rf | exact vle_int (by dsimp only; omega)⟩, ?_⟩); exact trivial, by (repeat refine ⟨⟨_, rfl, by first | exact BLe.rf | exact BLe.box AllC.rf | exact BLe.arr (by exact rfl)⟩, ?_⟩); exact trivial, by repeat (first | exact trivial | refine ⟨⟨rfl, by first | (left; intro h; cases h) | (right; rfl), fun _ h => ⟨_, h⟩⟩, ?_⟩), rfl⟩
      · try simp only [decide_eq_true_eq, decide_eq_false_iff_not, Bool.not_eq_true, Bool.not_eq_false, Bool.not_eq_true', Bool.not_eq_false', beq_iff_eq, bne_iff_ne, beq_eq_false_iff_ne, bne_eq_false_iff_eq, Int.not_lt, Int.not_le, ge_iff_le, gt_iff_lt] at h29
        refine AW_condT rfl ?_
        refine AW_seq ?_
        refine AW_region ?_
        refine AL_p (x_assign rfl rfl) ?_
        refine AL_nil ?_
        refine AW_ret (BQ_ret (BQ_ret ?_))
        exact ⟨rn [], ⟨⟨⟨_, rfl, vle_bool (by first | exact (sameRows_len (by omega)).symm | exact (sameRows_at (k := k) (by omega) (by omega) h29).symm | exact (sameRows_eq (hs.eq (by omega) (by omega))).symm)⟩, trivial⟩, trivial, trivial, rfl⟩⟩
    · try simp only [decide_eq_true_eq, decide_eq_false_iff_not, Bool.not_eq_true, Bool.not_eq_false, Bool.not_eq_true', Bool.not_eq_false', beq_iff_eq, bne_iff_ne, beq_eq_false_iff_ne, bne_eq_false_iff_eq, Int.not_lt, Int.not_le, ge_iff_le, gt_iff_lt] at h18
      refine AW_condF rfl ?_
      refine AW_exit (BQ_hit ?_)
      refine AW_seq ?_
      refine AW_region ?_
      refine AL_p (x_assign rfl rfl) ?_
      refine AL_nil ?_
      refine AW_ret ?_
      exact ⟨rn [], ⟨⟨⟨_, rfl, vle_bool (by first | exact (sameRows_len (by omega)).symm | exact (sameRows_at (k := k) (by omega) (by omega) h29).symm | exact (sameRows_eq (hs.eq (by omega) (by omega))).symm)⟩, trivial⟩, trivial, trivial, rfl⟩⟩

set_option maxHeartbeats 4000000 in
theorem likeRelI_c (a b : Relt) (ha : smallRel a) : AC Try.prog 124 [.agg (relC a), .agg (relC b)] [] (.one (.c (.bool (likeRel a b)))) [] := by
  refine AC_body1 Try.func124 rfl rfl Try.ntmps124 rfl Try.results124 ?_
  refine AW_seq ?_
  refine AW_region ?_
  refine AL_p (x_box 100 rfl rfl rfl rfl rfl rfl rfl) ?_
  refine AL_p (x_box 101 rfl rfl rfl rfl rfl rfl rfl) ?_
  refine AL_p (x_assign rfl rfl) ?_
  refine AL_nil ?_
  refine AW_seq ?_
  refine AW_region ?_
  refine AL_p (x_field (off := 0) (o' := 0) rfl rfl rfl (by kernel_rfl) rfl) ?_
  refine AL_p (x_load1 rfl rfl rfl (by kernel_rfl) rfl) ?_
  refine AL_p (x_field (off := 0) (o' := 0) rfl rfl rfl (by kernel_rfl) rfl) ?_
  refine AL_p (x_load1 rfl rfl rfl (by kernel_rfl) rfl) ?_
  refine AL_b (x_eql rfl rfl rfl) (fun b9 h9 => ?_)
  refine AL_p (x_move rfl rfl) ?_
  cases b9
  rotate_left
  · try simp only [decide_eq_true_eq, decide_eq_false_iff_not, Bool.not_eq_true, Bool.not_eq_false, Bool.not_eq_true', Bool.not_eq_false', beq_iff_eq, bne_iff_ne, beq_eq_false_iff_ne, bne_eq_false_iff_eq, Int.not_lt, Int.not_le, ge_iff_le, gt_iff_lt] at h9
    refine AL_g rfl rfl (x_field (off := 1) (o' := 1) rfl rfl rfl (by kernel_rfl) rfl) ?_
    refine AL_g rfl rfl (x_load1 rfl rfl rfl (by kernel_rfl) rfl) ?_
    refine AL_g rfl rfl (x_field (off := 1) (o' := 1) rfl rfl rfl (by kernel_rfl) rfl) ?_
    refine AL_g rfl rfl (x_load1 rfl rfl rfl (by kernel_rfl) rfl) ?_
    refine AL_gb rfl rfl (x_call0 rfl rfl rfl (eqRows_c _ _ ha.1 fun r hr => (ha.2 r hr).1) rfl rfl) (fun b15 h15 => ?_)
    refine AL_p (x_pickT rfl rfl rfl) ?_
    refine AL_p (x_assign rfl rfl) ?_
    refine AL_nil ?_
    refine AW_ret ?_
    cases b15
    rotate_left
    · try simp only [decide_eq_true_eq, decide_eq_false_iff_not, Bool.not_eq_true, Bool.not_eq_false, Bool.not_eq_true', Bool.not_eq_false', beq_iff_eq, bne_iff_ne, beq_eq_false_iff_ne, bne_eq_false_iff_eq, Int.not_lt, Int.not_le, ge_iff_le, gt_iff_lt] at h15
      exact ⟨rn [], ⟨⟨⟨_, rfl, vle_bool (by first | exact (likeRel_ar (beq_eq_false_iff_ne.2 h9)).symm | exact ((likeRel_ok (beq_iff_eq.2 h9)).trans h15).symm)⟩, trivial⟩, trivial, trivial, rfl⟩⟩
    · try simp only [decide_eq_true_eq, decide_eq_false_iff_not, Bool.not_eq_true, Bool.not_eq_false, Bool.not_eq_true', Bool.not_eq_false', beq_iff_eq, bne_iff_ne, beq_eq_false_iff_ne, bne_eq_false_iff_eq, Int.not_lt, Int.not_le, ge_iff_le, gt_iff_lt] at h15
      exact ⟨rn [], ⟨⟨⟨_, rfl, vle_bool (by first | exact (likeRel_ar (beq_eq_false_iff_ne.2 h9)).symm | exact ((likeRel_ok (beq_iff_eq.2 h9)).trans h15).symm)⟩, trivial⟩, trivial, trivial, rfl⟩⟩
  · try simp only [decide_eq_true_eq, decide_eq_false_iff_not, Bool.not_eq_true, Bool.not_eq_false, Bool.not_eq_true', Bool.not_eq_false', beq_iff_eq, bne_iff_ne, beq_eq_false_iff_ne, bne_eq_false_iff_eq, Int.not_lt, Int.not_le, ge_iff_le, gt_iff_lt] at h9
    refine AL_o rfl rfl rfl rfl ?_
    refine AL_o rfl rfl rfl rfl ?_
    refine AL_o rfl rfl rfl rfl ?_
    refine AL_o rfl rfl rfl rfl ?_
    refine AL_o rfl rfl rfl rfl ?_
    refine AL_p (x_pickF rfl rfl rfl) ?_
    refine AL_p (x_assign rfl rfl) ?_
    refine AL_nil ?_
    refine AW_ret ?_
    exact ⟨rn [], ⟨⟨⟨_, rfl, vle_bool (by first | exact (likeRel_ar (beq_eq_false_iff_ne.2 h9)).symm | exact ((likeRel_ok (beq_iff_eq.2 h9)).trans h15).symm)⟩, trivial⟩, trivial, trivial, rfl⟩⟩

end Go.Proofs.Ytibhoanjglfaoaa

/- Stores (printed by walk.py) -/
namespace Go.Proofs.Ytibhoanjglfaoaa
open Go.RowKit
set_option linter.unusedVariables false
set_option linter.unusedSimpArgs false
set_option maxRecDepth 100000

set_option maxHeartbeats 4000000 in
theorem storeOkS_c (s : Storet) (hs : smallStore s) : AC Try.prog 45 [.agg (storeC s)] [] (.one (.c (.bool (storeOk s)))) [] := by
  refine AC_body1 Try.func45 rfl rfl Try.ntmps45 rfl Try.results45 ?_
  refine AW_seq ?_
  refine AW_region ?_
  refine AL_p (x_box 100 rfl rfl rfl rfl rfl rfl rfl) ?_
  refine AL_p (x_assign rfl rfl) ?_
  refine AL_nil ?_
  refine AW_seq ?_
  refine AW_seq ?_
  refine AW_region ?_
  refine AL_p (x_field (off := 0) (o' := 0) rfl rfl rfl (by kernel_rfl) rfl) ?_
  refine AL_p (x_load1 rfl rfl rfl (by kernel_rfl) rfl) ?_
  refine AL_p (x_len (E := 89) (n := 3) rfl rfl (by kernel_rfl)) ?_
  refine AL_b (x_gtr rfl rfl rfl) (fun b7 h7 => ?_)
  refine AL_nil ?_
  cases b7
  rotate_left
  · try simp only [decide_eq_true_eq, decide_eq_false_iff_not, Bool.not_eq_true, Bool.not_eq_false, Bool.not_eq_true', Bool.not_eq_false', beq_iff_eq, bne_iff_ne, beq_eq_false_iff_ne, bne_eq_false_iff_eq, Int.not_lt, Int.not_le, ge_iff_le, gt_iff_lt] at h7
    refine AW_condT rfl ?_
    refine AW_seq ?_
    refine AW_region ?_
    refine AL_p (x_assign rfl rfl) ?_
    refine AL_nil ?_
    refine AW_ret ?_
    exact ⟨rn [], ⟨⟨⟨_, rfl, vle_bool (by first | exact (storeOk_len (by omega)).symm | exact (storeOk_bad (k := k) (by omega) (namedAt_word (by omega) h20)).symm | exact (storeOk_bad (k := k) (by omega) (namedAt_rel (by omega) h29)).symm | exact (storeOk_bad (k := k) (by omega) (namedAt_order (by omega) (by omega) h49)).symm | exact (storeOk_good hA (by omega) (by omega)).symm | exact (storeOk_good hA (by omega) (by simpa using h43)).symm | exact (storeOk_len (by omega)).symm)⟩, trivial⟩, trivial, trivial, rfl⟩⟩
  · try simp only [decide_eq_true_eq, decide_eq_false_iff_not, Bool.not_eq_true, Bool.not_eq_false, Bool.not_eq_true', Bool.not_eq_false', beq_iff_eq, bne_iff_ne, beq_eq_false_iff_ne, bne_eq_false_iff_eq, Int.not_lt, Int.not_le, ge_iff_le, gt_iff_lt] at h7
    refine AW_condF rfl ?_
    refine AW_skip ?_
    refine AW_seq ?_
    refine AW_seq ?_
    refine AW_region ?_
    refine AL_p (x_field (off := 0) (o' := 0) rfl rfl rfl (by kernel_rfl) rfl) ?_
    refine AL_p (x_load1 rfl rfl rfl (by kernel_rfl) rfl) ?_
    refine AL_p (x_len (E := 89) (n := 3) rfl rfl (by kernel_rfl)) ?_
    refine AL_p (x_move rfl rfl) ?_
    refine AL_nil ?_
    refine AW_block ?_
    refine AW_loop2 (ι := {q : Nat // q ≤ s.rels.length ∧ AllAt (namedAt s.rels) q}) (fun p => [(11, .one (.c (.int .i64 ((p.1) : Int))))]) (fun p => []) [1, 10] [100] (fun p => s.rels.length - (p.1)) ⟨0, ⟨by have := hs.1; omega, .zero⟩⟩ (rn []) ?_ ?_
    exact ⟨by (repeat refine ⟨⟨_, rfl, by first | exact VLe.rf | exact vle_int (by dsimp only; omega)⟩, ?_⟩); exact trivial, by (repeat refine ⟨⟨_, rfl, by first | exact BLe.rf | exact BLe.box AllC.rf | exact BLe.arr (by exact rfl)⟩, ?_⟩); exact trivial, by repeat (first | exact trivial | refine ⟨⟨rfl, by first | (left; intro h; cases h) | (right; rfl), fun _ h => ⟨_, h⟩⟩, ?_⟩), rfl⟩
    rintro ⟨k, hinv⟩
    dsimp only
    obtain ⟨hk, hA⟩ := hinv
    have hl := hs.1
    refine AW_seq ?_
    refine AW_region ?_
    refine AL_b (x_lss rfl rfl rfl) (fun b12 h12 => ?_)
    refine AL_nil ?_
    refine AW_seq ?_
    cases b12
    rotate_left
    · try simp only [decide_eq_true_eq, decide_eq_false_iff_not, Bool.not_eq_true, Bool.not_eq_false, Bool.not_eq_true', Bool.not_eq_false', beq_iff_eq, bne_iff_ne, beq_eq_false_iff_ne, bne_eq_false_iff_eq, Int.not_lt, Int.not_le, ge_iff_le, gt_iff_lt] at h12
      refine AW_condT rfl ?_
      refine AW_skip ?_
      refine AW_seq ?_
      refine AW_block ?_
      refine AW_seq ?_
      refine AW_region ?_
      refine AL_p (x_move rfl rfl) ?_
      refine AL_p (x_assign rfl rfl) ?_
      refine AL_nil ?_
      refine AW_seq ?_
      refine AW_draw rfl ?_
      refine AL_p (x_field (off := 0) (o' := 0) rfl rfl rfl (by kernel_rfl) rfl) ?_
      refine AL_p (x_load1 rfl rfl rfl (by kernel_rfl) rfl) ?_
      refine AL_p (x_move rfl rfl) ?_
      refine AL_p (x_index (E := 89) (n := 3) rfl rfl rfl (by kernel_rfl) rfl (k := k) (by omega) (by omega)) ?_
      refine AL_p (x_efield (off := 0) (o' := 0) rfl rfl (by kernel_rfl) rfl) ?_
      refine AL_p (x_eload1 rfl rfl (by kernel_rfl) rfl) ?_
      refine AL_b (x_call0 rfl rfl rfl (wordOkS_c _) rfl rfl) (fun b20 h20 => ?_)
      refine AL_p (x_not rfl rfl) ?_
      refine AL_p (x_move rfl rfl) ?_
      cases b20
      rotate_left
      · try simp only [decide_eq_true_eq, decide_eq_false_iff_not, Bool.not_eq_true, Bool.not_eq_false, Bool.not_eq_true', Bool.not_eq_false', beq_iff_eq, bne_iff_ne, beq_eq_false_iff_ne, bne_eq_false_iff_eq, Int.not_lt, Int.not_le, ge_iff_le, gt_iff_lt] at h20
        refine AL_g rfl rfl (x_field (off := 0) (o' := 0) rfl rfl rfl (by kernel_rfl) rfl) ?_
        refine AL_g rfl rfl (x_load1 rfl rfl rfl (by kernel_rfl) rfl) ?_
        refine AL_g rfl rfl (x_move rfl rfl) ?_
        refine AL_g rfl rfl (x_index (E := 89) (n := 3) rfl rfl rfl (by kernel_rfl) rfl (k := k) (by omega) (by omega)) ?_
        refine AL_g rfl rfl (x_efield (off := 1) (o' := 1) rfl rfl (by kernel_rfl) rfl) ?_
        refine AL_g rfl rfl (x_eloadN (n := 2) rfl rfl (by kernel_rfl) rfl rfl) ?_
        refine AL_gb rfl rfl (x_call0 rfl rfl rfl (relOkS_c _ (hs.2 _ (List.getElem_mem _)).2.1) rfl rfl) (fun b29 h29 => ?_)
        refine AL_g rfl rfl (x_not rfl rfl) ?_
        refine AL_p (x_pickF rfl rfl rfl) ?_
        refine AL_p (x_move rfl rfl) ?_
        cases b29
        rotate_left
        · try simp only [decide_eq_true_eq, decide_eq_false_iff_not, Bool.not_eq_true, Bool.not_eq_false, Bool.not_eq_true', Bool.not_eq_false', beq_iff_eq, bne_iff_ne, beq_eq_false_iff_ne, bne_eq_false_iff_eq, Int.not_lt, Int.not_le, ge_iff_le, gt_iff_lt] at h29
          refine AL_g rfl rfl (x_move rfl rfl) ?_
          refine AL_gb rfl rfl (x_gtr rfl rfl rfl) (fun b34 h34 => ?_)
          refine AL_g rfl rfl (x_move rfl rfl) ?_
          cases b34
          rotate_left
          · try simp only [decide_eq_true_eq, decide_eq_false_iff_not, Bool.not_eq_true, Bool.not_eq_false, Bool.not_eq_true', Bool.not_eq_false', beq_iff_eq, bne_iff_ne, beq_eq_false_iff_ne, bne_eq_false_iff_eq, Int.not_lt, Int.not_le, ge_iff_le, gt_iff_lt] at h34
            refine AL_g rfl rfl (x_field (off := 0) (o' := 0) rfl rfl rfl (by kernel_rfl) rfl) ?_
            refine AL_g rfl rfl (x_load1 rfl rfl rfl (by kernel_rfl) rfl) ?_
            refine AL_g rfl rfl (x_move rfl rfl) ?_
            refine AL_g rfl rfl (x_sub rfl rfl rfl (IntWalk.i64_in _ (by omega))) ?_
            refine AL_g rfl rfl (x_index (E := 89) (n := 3) rfl rfl rfl (by kernel_rfl) rfl (k := k - 1) (by omega) (by omega)) ?_
            refine AL_g rfl rfl (x_efield (off := 0) (o' := 0) rfl rfl (by kernel_rfl) rfl) ?_
            refine AL_g rfl rfl (x_eload1 rfl rfl (by kernel_rfl) rfl) ?_
            refine AL_g rfl rfl (x_field (off := 0) (o' := 0) rfl rfl rfl (by kernel_rfl) rfl) ?_
            refine AL_g rfl rfl (x_load1 rfl rfl rfl (by kernel_rfl) rfl) ?_
            refine AL_g rfl rfl (x_move rfl rfl) ?_
            refine AL_g rfl rfl (x_index (E := 89) (n := 3) rfl rfl rfl (by kernel_rfl) rfl (k := k) (by omega) (by omega)) ?_
            refine AL_g rfl rfl (x_efield (off := 0) (o' := 0) rfl rfl (by kernel_rfl) rfl) ?_
            refine AL_g rfl rfl (x_eload1 rfl rfl (by kernel_rfl) rfl) ?_
            refine AL_gb rfl rfl (x_sgeq rfl rfl rfl) (fun b49 h49 => ?_)
            refine AL_g rfl rfl (x_pickT rfl rfl rfl) ?_
            refine AL_p (x_pickF rfl rfl rfl) ?_
            refine AL_nild (by kernel_rfl) ?_
            cases b49
            rotate_left
            · try simp only [decide_eq_true_eq, decide_eq_false_iff_not, Bool.not_eq_true, Bool.not_eq_false, Bool.not_eq_true', Bool.not_eq_false', beq_iff_eq, bne_iff_ne, beq_eq_false_iff_ne, bne_eq_false_iff_eq, Int.not_lt, Int.not_le, ge_iff_le, gt_iff_lt] at h49
              refine AW_condT rfl ?_
              refine AW_seq ?_
              refine AW_region ?_
              refine AL_p (x_assign rfl rfl) ?_
              refine AL_nil ?_
              refine AW_ret (BQ_ret (BQ_ret ?_))
              exact ⟨rn [], ⟨⟨⟨_, rfl, vle_bool (by first | exact (storeOk_len (by omega)).symm | exact (storeOk_bad (k := k) (by omega) (namedAt_word (by omega) h20)).symm | exact (storeOk_bad (k := k) (by omega) (namedAt_rel (by omega) h29)).symm | exact (storeOk_bad (k := k) (by omega) (namedAt_order (by omega) (by omega) h49)).symm | exact (storeOk_good hA (by omega) (by omega)).symm | exact (storeOk_good hA (by omega) (by simpa using h43)).symm | exact (storeOk_len (by omega)).symm)⟩, trivial⟩, trivial, trivial, rfl⟩⟩
            · try simp only [decide_eq_true_eq, decide_eq_false_iff_not, Bool.not_eq_true, Bool.not_eq_false, Bool.not_eq_true', Bool.not_eq_false', beq_iff_eq, bne_iff_ne, beq_eq_false_iff_ne, bne_eq_false_iff_eq, Int.not_lt, Int.not_le, ge_iff_le, gt_iff_lt] at h49
              have hat := namedAt_next (l := s.rels) (k := k) (by omega) h20 h29 h49
              refine AW_condF rfl ?_
              refine AW_skip ?_
              refine AW_region ?_
              refine AL_p (x_add rfl rfl rfl (IntWalk.i64_in _ (by omega))) ?_
              refine AL_p (x_move rfl rfl) ?_
              refine AL_nil ?_
              refine ⟨⟨k + 1, ⟨by omega, hA.succ (by omega) hat⟩⟩, rn [], ?_, by dsimp only; omega⟩
              exact ⟨by (repeat refine ⟨⟨_, rfl, by first | exact VLe.rf | exact vle_int (by dsimp only; omega)⟩, ?_⟩); exact trivial, by (repeat refine ⟨⟨_, rfl, by first | exact BLe.rf | exact BLe.box AllC.rf | exact BLe.arr (by exact rfl)⟩, ?_⟩); exact trivial, by repeat (first | exact trivial | refine ⟨⟨rfl, by first | (left; intro h; cases h) | (right; rfl), fun _ h => ⟨_, h⟩⟩, ?_⟩), rfl⟩
          · try simp only [decide_eq_true_eq, decide_eq_false_iff_not, Bool.not_eq_true, Bool.not_eq_false, Bool.not_eq_true', Bool.not_eq_false', beq_iff_eq, bne_iff_ne, beq_eq_false_iff_ne, bne_eq_false_iff_eq, Int.not_lt, Int.not_le, ge_iff_le, gt_iff_lt] at h34
            have hat := namedAt_first (l := s.rels) (k := k) (by omega) (by omega) h20 h29
            refine AL_o rfl rfl rfl rfl ?_
            refine AL_o rfl rfl rfl rfl ?_
            refine AL_o rfl rfl rfl rfl ?_
            refine AL_o rfl rfl rfl rfl ?_
            refine AL_o rfl rfl rfl rfl ?_
            refine AL_o rfl rfl rfl rfl ?_
            refine AL_o rfl rfl rfl rfl ?_
            refine AL_o rfl rfl rfl rfl ?_
            refine AL_o rfl rfl rfl rfl ?_
            refine AL_o rfl rfl rfl rfl ?_
            refine AL_o rfl rfl rfl rfl ?_
            refine AL_o rfl rfl rfl rfl ?_
            refine AL_o rfl rfl rfl rfl ?_
            refine AL_o rfl rfl rfl rfl ?_
            refine AL_g rfl rfl (x_pickF rfl rfl rfl) ?_
            refine AL_p (x_pickF rfl rfl rfl) ?_
            refine AL_nild (by kernel_rfl) ?_
            refine AW_condF rfl ?_
            refine AW_skip ?_
            refine AW_region ?_
            refine AL_p (x_add rfl rfl rfl (IntWalk.i64_in _ (by omega))) ?_
            refine AL_p (x_move rfl rfl) ?_
            refine AL_nil ?_
            refine ⟨⟨k + 1, ⟨by omega, hA.succ (by omega) hat⟩⟩, rn [], ?_, by dsimp only; omega⟩
            exact ⟨by (repeat refine ⟨⟨_, rfl, by first | exact VLe.rf | exact vle_int (by dsimp only; omega)⟩, ?_⟩); exact trivial, by (repeat refine ⟨⟨_, rfl, by first | exact BLe.rf | exact BLe.box AllC.rf | exact BLe.arr (by exact rfl)⟩, ?_⟩); exact trivial, by repeat (first | exact trivial | refine ⟨⟨rfl, by first | (left; intro h; cases h) | (right; rfl), fun _ h => ⟨_, h⟩⟩, ?_⟩), rfl⟩
        · try simp only [decide_eq_true_eq, decide_eq_false_iff_not, Bool.not_eq_true, Bool.not_eq_false, Bool.not_eq_true', Bool.not_eq_false', beq_iff_eq, bne_iff_ne, beq_eq_false_iff_ne, bne_eq_false_iff_eq, Int.not_lt, Int.not_le, ge_iff_le, gt_iff_lt] at h29
          refine AL_o rfl rfl rfl rfl ?_
          refine AL_o rfl rfl rfl rfl ?_
          refine AL_o rfl rfl rfl rfl ?_
          refine AL_u rfl rfl rfl ?_
          refine AL_u rfl rfl rfl ?_
          refine AL_u rfl rfl rfl ?_
          refine AL_u rfl rfl rfl ?_
          refine AL_u rfl rfl rfl ?_
          refine AL_u rfl rfl rfl ?_
          refine AL_u rfl rfl rfl ?_
          refine AL_u rfl rfl rfl ?_
          refine AL_u rfl rfl rfl ?_
          refine AL_u rfl rfl rfl ?_
          refine AL_u rfl rfl rfl ?_
          refine AL_u rfl rfl rfl ?_
          refine AL_u rfl rfl rfl ?_
          refine AL_u rfl rfl rfl ?_
          refine AL_o rfl rfl rfl rfl ?_
          refine AL_p (x_pickT rfl rfl rfl) ?_
          refine AL_nild (by kernel_rfl) ?_
          refine AW_condT rfl ?_
          refine AW_seq ?_
          refine AW_region ?_
          refine AL_p (x_assign rfl rfl) ?_
          refine AL_nil ?_
          refine AW_ret (BQ_ret (BQ_ret ?_))
          exact ⟨rn [], ⟨⟨⟨_, rfl, vle_bool (by first | exact (storeOk_len (by omega)).symm | exact (storeOk_bad (k := k) (by omega) (namedAt_word (by omega) h20)).symm | exact (storeOk_bad (k := k) (by omega) (namedAt_rel (by omega) h29)).symm | exact (storeOk_bad (k := k) (by omega) (namedAt_order (by omega) (by omega) h49)).symm | exact (storeOk_good hA (by omega) (by omega)).symm | exact (storeOk_good hA (by omega) (by simpa using h43)).symm | exact (storeOk_len (by omega)).symm)⟩, trivial⟩, trivial, trivial, rfl⟩⟩
      · try simp only [decide_eq_true_eq, decide_eq_false_iff_not, Bool.not_eq_true, Bool.not_eq_false, Bool.not_eq_true', Bool.not_eq_false', beq_iff_eq, bne_iff_ne, beq_eq_false_iff_ne, bne_eq_false_iff_eq, Int.not_lt, Int.not_le, ge_iff_le, gt_iff_lt] at h20
        refine AL_o rfl rfl rfl rfl ?_
        refine AL_o rfl rfl rfl rfl ?_
        refine AL_o rfl rfl rfl rfl ?_
        refine AL_o rfl rfl rfl rfl ?_
        refine AL_o rfl rfl rfl rfl ?_
        refine AL_o rfl rfl rfl rfl ?_
        refine AL_o rfl rfl rfl rfl ?_
        refine AL_o rfl rfl rfl rfl ?_
        refine AL_p (x_pickT rfl rfl rfl) ?_
        refine AL_p (x_move rfl rfl) ?_
        refine AL_o rfl rfl rfl rfl ?_
        refine AL_o rfl rfl rfl rfl ?_
        refine AL_o rfl rfl rfl rfl ?_
        refine AL_u rfl rfl rfl ?_
        refine AL_u rfl rfl rfl ?_
        refine AL_u rfl rfl rfl ?_
        refine AL_u rfl rfl rfl ?_
        refine AL_u rfl rfl rfl ?_
        refine AL_u rfl rfl rfl ?_
        refine AL_u rfl rfl rfl ?_
        refine AL_u rfl rfl rfl ?_
        refine AL_u rfl rfl rfl ?_
        refine AL_u rfl rfl rfl ?_
        refine AL_u rfl rfl rfl ?_
        refine AL_u rfl rfl rfl ?_
        refine AL_u rfl rfl rfl ?_
        refine AL_u rfl rfl rfl ?_
        refine AL_o rfl rfl rfl rfl ?_
        refine AL_p (x_pickT rfl rfl rfl) ?_
        refine AL_nild (by kernel_rfl) ?_
        refine AW_condT rfl ?_
        refine AW_seq ?_
        refine AW_region ?_
        refine AL_p (x_assign rfl rfl) ?_
        refine AL_nil ?_
        refine AW_ret (BQ_ret (BQ_ret ?_))
        exact ⟨rn [], ⟨⟨⟨_, rfl, vle_bool (by first | exact (storeOk_len (by omega)).symm | exact (storeOk_bad (k := k) (by omega) (namedAt_word (by omega) h20)).symm | exact (storeOk_bad (k := k) (by omega) (namedAt_rel (by omega) h29)).symm | exact (storeOk_bad (k := k) (by omega) (namedAt_order (by omega) (by omega) h49)).symm | exact (storeOk_good hA (by omega) (by omega)).symm | exact (storeOk_good hA (by omega) (by simpa using h43)).symm | exact (storeOk_len (by omega)).symm)⟩, trivial⟩, trivial, trivial, rfl⟩⟩
    · try simp only [decide_eq_true_eq, decide_eq_false_iff_not, Bool.not_eq_true, Bool.not_eq_false, Bool.not_eq_true', Bool.not_eq_false', beq_iff_eq, bne_iff_ne, beq_eq_false_iff_ne, bne_eq_false_iff_eq, Int.not_lt, Int.not_le, ge_iff_le, gt_iff_lt] at h12
      refine AW_condF rfl ?_
      refine AW_exit (BQ_hit ?_)
      refine AW_seq ?_
      refine AW_region ?_
      refine AL_p (x_assign rfl rfl) ?_
      refine AL_nil ?_
      refine AW_ret ?_
      exact ⟨rn [], ⟨⟨⟨_, rfl, vle_bool (by first | exact (storeOk_len (by omega)).symm | exact (storeOk_bad (k := k) (by omega) (namedAt_word (by omega) h20)).symm | exact (storeOk_bad (k := k) (by omega) (namedAt_rel (by omega) h29)).symm | exact (storeOk_bad (k := k) (by omega) (namedAt_order (by omega) (by omega) h49)).symm | exact (storeOk_good hA (by omega) (by omega)).symm | exact (storeOk_good hA (by omega) (by simpa using h43)).symm | exact (storeOk_len (by omega)).symm)⟩, trivial⟩, trivial, trivial, rfl⟩⟩

set_option maxHeartbeats 4000000 in
theorem storeOkI_c (s : Storet) (hs : smallStore s) : AC Try.prog 50 [.agg (storeC s)] [] (.one (.c (.bool (storeOk s)))) [] := by
  refine AC_body1 Try.func50 rfl rfl Try.ntmps50 rfl Try.results50 ?_
  refine AW_seq ?_
  refine AW_region ?_
  refine AL_p (x_box 100 rfl rfl rfl rfl rfl rfl rfl) ?_
  refine AL_p (x_assign rfl rfl) ?_
  refine AL_nil ?_
  refine AW_seq ?_
  refine AW_seq ?_
  refine AW_region ?_
  refine AL_p (x_field (off := 0) (o' := 0) rfl rfl rfl (by kernel_rfl) rfl) ?_
  refine AL_p (x_load1 rfl rfl rfl (by kernel_rfl) rfl) ?_
  refine AL_p (x_len (E := 89) (n := 3) rfl rfl (by kernel_rfl)) ?_
  refine AL_p (x_move rfl rfl) ?_
  refine AL_nil ?_
  refine AW_block ?_
  refine AW_loop2 (ι := {q : Nat // q ≤ s.rels.length ∧ AllAt (namedAt s.rels) q}) (fun p => [(8, .one (.c (.int .i64 ((p.1) : Int))))]) (fun p => []) [1, 6, 7] [100] (fun p => s.rels.length - (p.1)) ⟨0, ⟨by have := hs.1; omega, .zero⟩⟩ (rn []) ?_ ?_
  exact ⟨by (repeat refine ⟨⟨_, rfl, by first | exact VLe.rf | exact vle_int (by dsimp only; omega)⟩, ?_⟩); exact trivial, by (repeat refine ⟨⟨_, rfl, by first | exact BLe.rf | exact BLe.box AllC.rf | exact BLe.arr (by exact rfl)⟩, ?_⟩); exact trivial, by repeat (first | exact trivial | refine ⟨⟨rfl, by first | (left; intro h; cases h) | (right; rfl), fun _ h => ⟨_, h⟩⟩, ?_⟩), rfl⟩
  rintro ⟨k, hinv⟩
  dsimp only
  obtain ⟨hk, hA⟩ := hinv
  have hl := hs.1
  refine AW_seq ?_
  refine AW_region ?_
  refine AL_b (x_lss rfl rfl rfl) (fun b9 h9 => ?_)
  refine AL_nil ?_
  refine AW_seq ?_
  cases b9
  rotate_left
  · try simp only [decide_eq_true_eq, decide_eq_false_iff_not, Bool.not_eq_true, Bool.not_eq_false, Bool.not_eq_true', Bool.not_eq_false', beq_iff_eq, bne_iff_ne, beq_eq_false_iff_ne, bne_eq_false_iff_eq, Int.not_lt, Int.not_le, ge_iff_le, gt_iff_lt] at h9
    refine AW_condT rfl ?_
    refine AW_skip ?_
    refine AW_seq ?_
    refine AW_block ?_
    refine AW_seq ?_
    refine AW_region ?_
    refine AL_p (x_move rfl rfl) ?_
    refine AL_p (x_index (E := 89) (n := 3) rfl rfl rfl (by kernel_rfl) rfl (k := k) (by omega) (by omega)) ?_
    refine AL_p (x_eloadW (n := 3) rfl rfl (by kernel_rfl) rfl) ?_
    refine AL_p (x_alloc (z := .agg #[.string ⟨#[]⟩, .int .i64 0, .slice none 0 0]) 101 rfl (by kernel_rfl) rfl rfl rfl rfl) ?_
    refine AL_p (x_assign rfl rfl) ?_
    refine AL_p (x_store (n := 3) rfl rfl rfl rfl (by kernel_rfl) rfl rfl rfl) ?_
    refine AL_nil ?_
    refine AW_seq ?_
    refine AW_draw rfl ?_
    refine AL_p (x_field (off := 0) (o' := 0) rfl rfl rfl (by kernel_rfl) rfl) ?_
    refine AL_p (x_load1 rfl rfl rfl (by kernel_rfl) rfl) ?_
    refine AL_b (x_call0 rfl rfl rfl (wordOkI_c _) rfl rfl) (fun b15 h15 => ?_)
    refine AL_p (x_not rfl rfl) ?_
    refine AL_p (x_move rfl rfl) ?_
    cases b15
    rotate_left
    · try simp only [decide_eq_true_eq, decide_eq_false_iff_not, Bool.not_eq_true, Bool.not_eq_false, Bool.not_eq_true', Bool.not_eq_false', beq_iff_eq, bne_iff_ne, beq_eq_false_iff_ne, bne_eq_false_iff_eq, Int.not_lt, Int.not_le, ge_iff_le, gt_iff_lt] at h15
      refine AL_g rfl rfl (x_field (off := 1) (o' := 1) rfl rfl rfl (by kernel_rfl) rfl) ?_
      refine AL_g rfl rfl (x_loadN (n := 2) rfl rfl rfl (by kernel_rfl) rfl rfl) ?_
      refine AL_gb rfl rfl (x_call0 rfl rfl rfl (relOkI_c _ (hs.2 _ (List.getElem_mem _)).2.1) rfl rfl) (fun b20 h20 => ?_)
      refine AL_g rfl rfl (x_not rfl rfl) ?_
      refine AL_p (x_pickF rfl rfl rfl) ?_
      refine AL_p (x_move rfl rfl) ?_
      cases b20
      rotate_left
      · try simp only [decide_eq_true_eq, decide_eq_false_iff_not, Bool.not_eq_true, Bool.not_eq_false, Bool.not_eq_true', Bool.not_eq_false', beq_iff_eq, bne_iff_ne, beq_eq_false_iff_ne, bne_eq_false_iff_eq, Int.not_lt, Int.not_le, ge_iff_le, gt_iff_lt] at h20
        refine AL_g rfl rfl (x_move rfl rfl) ?_
        refine AL_gb rfl rfl (x_gtr rfl rfl rfl) (fun b25 h25 => ?_)
        refine AL_g rfl rfl (x_move rfl rfl) ?_
        cases b25
        rotate_left
        · try simp only [decide_eq_true_eq, decide_eq_false_iff_not, Bool.not_eq_true, Bool.not_eq_false, Bool.not_eq_true', Bool.not_eq_false', beq_iff_eq, bne_iff_ne, beq_eq_false_iff_ne, bne_eq_false_iff_eq, Int.not_lt, Int.not_le, ge_iff_le, gt_iff_lt] at h25
          refine AL_g rfl rfl (x_field (off := 0) (o' := 0) rfl rfl rfl (by kernel_rfl) rfl) ?_
          refine AL_g rfl rfl (x_load1 rfl rfl rfl (by kernel_rfl) rfl) ?_
          refine AL_g rfl rfl (x_move rfl rfl) ?_
          refine AL_g rfl rfl (x_sub rfl rfl rfl (IntWalk.i64_in _ (by omega))) ?_
          refine AL_g rfl rfl (x_index (E := 89) (n := 3) rfl rfl rfl (by kernel_rfl) rfl (k := k - 1) (by omega) (by omega)) ?_
          refine AL_g rfl rfl (x_efield (off := 0) (o' := 0) rfl rfl (by kernel_rfl) rfl) ?_
          refine AL_g rfl rfl (x_eload1 rfl rfl (by kernel_rfl) rfl) ?_
          refine AL_g rfl rfl (x_field (off := 0) (o' := 0) rfl rfl rfl (by kernel_rfl) rfl) ?_
          refine AL_g rfl rfl (x_load1 rfl rfl rfl (by kernel_rfl) rfl) ?_
          refine AL_gb rfl rfl (x_sgeq rfl rfl rfl) (fun b36 h36 => ?_)
          refine AL_g rfl rfl (x_pickT rfl rfl rfl) ?_
          refine AL_p (x_pickF rfl rfl rfl) ?_
          refine AL_nild (by kernel_rfl) ?_
          cases b36
          rotate_left
          · try simp only [decide_eq_true_eq, decide_eq_false_iff_not, Bool.not_eq_true, Bool.not_eq_false, Bool.not_eq_true', Bool.not_eq_false', beq_iff_eq, bne_iff_ne, beq_eq_false_iff_ne, bne_eq_false_iff_eq, Int.not_lt, Int.not_le, ge_iff_le, gt_iff_lt] at h36
            refine AW_condT rfl ?_
            refine AW_seq ?_
            refine AW_region ?_
            refine AL_p (x_assign rfl rfl) ?_
            refine AL_nil ?_
            refine AW_ret (BQ_ret (BQ_ret ?_))
            exact ⟨rn [], ⟨⟨⟨_, rfl, vle_bool (by first | exact (storeOk_len (by omega)).symm | exact (storeOk_bad (k := k) (by omega) (namedAt_word (by omega) h15)).symm | exact (storeOk_bad (k := k) (by omega) (namedAt_rel (by omega) h20)).symm | exact (storeOk_bad (k := k) (by omega) (namedAt_order (by omega) (by omega) h36)).symm | exact (storeOk_good hA (by omega) (by omega)).symm | exact (storeOk_good hA (by omega) (by simpa using h43)).symm | exact (storeOk_len (by omega)).symm)⟩, trivial⟩, trivial, trivial, rfl⟩⟩
          · try simp only [decide_eq_true_eq, decide_eq_false_iff_not, Bool.not_eq_true, Bool.not_eq_false, Bool.not_eq_true', Bool.not_eq_false', beq_iff_eq, bne_iff_ne, beq_eq_false_iff_ne, bne_eq_false_iff_eq, Int.not_lt, Int.not_le, ge_iff_le, gt_iff_lt] at h36
            have hat := namedAt_next (l := s.rels) (k := k) (by omega) h15 h20 h36
            refine AW_condF rfl ?_
            refine AW_skip ?_
            refine AW_region ?_
            refine AL_p (x_add rfl rfl rfl (IntWalk.i64_in _ (by omega))) ?_
            refine AL_p (x_move rfl rfl) ?_
            refine AL_nil ?_
            refine ⟨⟨k + 1, ⟨by omega, hA.succ (by omega) hat⟩⟩, rn [], ?_, by dsimp only; omega⟩
            exact ⟨by (repeat refine ⟨⟨_, rfl, by first | exact VLe.rf | exact vle_int (by dsimp only; omega)⟩, ?_⟩); exact trivial, by (repeat refine ⟨⟨_, rfl, by first | exact BLe.rf | exact BLe.box AllC.rf | exact BLe.arr (by exact rfl)⟩, ?_⟩); exact trivial, by repeat (first | exact trivial | refine ⟨⟨rfl, by first | (left; intro h; cases h) | (right; rfl), fun _ h => ⟨_, h⟩⟩, ?_⟩), rfl⟩
        · try simp only [decide_eq_true_eq, decide_eq_false_iff_not, Bool.not_eq_true, Bool.not_eq_false, Bool.not_eq_true', Bool.not_eq_false', beq_iff_eq, bne_iff_ne, beq_eq_false_iff_ne, bne_eq_false_iff_eq, Int.not_lt, Int.not_le, ge_iff_le, gt_iff_lt] at h25
          have hat := namedAt_first (l := s.rels) (k := k) (by omega) (by omega) h15 h20
          refine AL_o rfl rfl rfl rfl ?_
          refine AL_o rfl rfl rfl rfl ?_
          refine AL_o rfl rfl rfl rfl ?_
          refine AL_o rfl rfl rfl rfl ?_
          refine AL_o rfl rfl rfl rfl ?_
          refine AL_o rfl rfl rfl rfl ?_
          refine AL_o rfl rfl rfl rfl ?_
          refine AL_o rfl rfl rfl rfl ?_
          refine AL_o rfl rfl rfl rfl ?_
          refine AL_o rfl rfl rfl rfl ?_
          refine AL_g rfl rfl (x_pickF rfl rfl rfl) ?_
          refine AL_p (x_pickF rfl rfl rfl) ?_
          refine AL_nild (by kernel_rfl) ?_
          refine AW_condF rfl ?_
          refine AW_skip ?_
          refine AW_region ?_
          refine AL_p (x_add rfl rfl rfl (IntWalk.i64_in _ (by omega))) ?_
          refine AL_p (x_move rfl rfl) ?_
          refine AL_nil ?_
          refine ⟨⟨k + 1, ⟨by omega, hA.succ (by omega) hat⟩⟩, rn [], ?_, by dsimp only; omega⟩
          exact ⟨by (repeat refine ⟨⟨_, rfl, by first | exact VLe.rf | exact vle_int (by dsimp only; omega)⟩, ?_⟩); exact trivial, by (repeat refine ⟨⟨_, rfl, by first | exact BLe.rf | exact BLe.box AllC.rf | exact BLe.arr (by exact rfl)⟩, ?_⟩); exact trivial, by repeat (first | exact trivial | refine ⟨⟨rfl, by first | (left; intro h; cases h) | (right; rfl), fun _ h => ⟨_, h⟩⟩, ?_⟩), rfl⟩
      · try simp only [decide_eq_true_eq, decide_eq_false_iff_not, Bool.not_eq_true, Bool.not_eq_false, Bool.not_eq_true', Bool.not_eq_false', beq_iff_eq, bne_iff_ne, beq_eq_false_iff_ne, bne_eq_false_iff_eq, Int.not_lt, Int.not_le, ge_iff_le, gt_iff_lt] at h20
        refine AL_o rfl rfl rfl rfl ?_
        refine AL_o rfl rfl rfl rfl ?_
        refine AL_o rfl rfl rfl rfl ?_
        refine AL_u rfl rfl rfl ?_
        refine AL_u rfl rfl rfl ?_
        refine AL_u rfl rfl rfl ?_
        refine AL_u rfl rfl rfl ?_
        refine AL_u rfl rfl rfl ?_
        refine AL_u rfl rfl rfl ?_
        refine AL_u rfl rfl rfl ?_
        refine AL_u rfl rfl rfl ?_
        refine AL_u rfl rfl rfl ?_
        refine AL_u rfl rfl rfl ?_
        refine AL_o rfl rfl rfl rfl ?_
        refine AL_p (x_pickT rfl rfl rfl) ?_
        refine AL_nild (by kernel_rfl) ?_
        refine AW_condT rfl ?_
        refine AW_seq ?_
        refine AW_region ?_
        refine AL_p (x_assign rfl rfl) ?_
        refine AL_nil ?_
        refine AW_ret (BQ_ret (BQ_ret ?_))
        exact ⟨rn [], ⟨⟨⟨_, rfl, vle_bool (by first | exact (storeOk_len (by omega)).symm | exact (storeOk_bad (k := k) (by omega) (namedAt_word (by omega) h15)).symm | exact (storeOk_bad (k := k) (by omega) (namedAt_rel (by omega) h20)).symm | exact (storeOk_bad (k := k) (by omega) (namedAt_order (by omega) (by omega) h36)).symm | exact (storeOk_good hA (by omega) (by omega)).symm | exact (storeOk_good hA (by omega) (by simpa using h43)).symm | exact (storeOk_len (by omega)).symm)⟩, trivial⟩, trivial, trivial, rfl⟩⟩
    · try simp only [decide_eq_true_eq, decide_eq_false_iff_not, Bool.not_eq_true, Bool.not_eq_false, Bool.not_eq_true', Bool.not_eq_false', beq_iff_eq, bne_iff_ne, beq_eq_false_iff_ne, bne_eq_false_iff_eq, Int.not_lt, Int.not_le, ge_iff_le, gt_iff_lt] at h15
      refine AL_o rfl rfl rfl rfl ?_
      refine AL_o rfl rfl rfl rfl ?_
      refine AL_o rfl rfl rfl rfl ?_
      refine AL_o rfl rfl rfl rfl ?_
      refine AL_p (x_pickT rfl rfl rfl) ?_
      refine AL_p (x_move rfl rfl) ?_
      refine AL_o rfl rfl rfl rfl ?_
      refine AL_o rfl rfl rfl rfl ?_
      refine AL_o rfl rfl rfl rfl ?_
      refine AL_u rfl rfl rfl ?_
      refine AL_u rfl rfl rfl ?_
      refine AL_u rfl rfl rfl ?_
      refine AL_u rfl rfl rfl ?_
      refine AL_u rfl rfl rfl ?_
      refine AL_u rfl rfl rfl ?_
      refine AL_u rfl rfl rfl ?_
      refine AL_u rfl rfl rfl ?_
      refine AL_u rfl rfl rfl ?_
      refine AL_u rfl rfl rfl ?_
      refine AL_o rfl rfl rfl rfl ?_
      refine AL_p (x_pickT rfl rfl rfl) ?_
      refine AL_nild (by kernel_rfl) ?_
      refine AW_condT rfl ?_
      refine AW_seq ?_
      refine AW_region ?_
      refine AL_p (x_assign rfl rfl) ?_
      refine AL_nil ?_
      refine AW_ret (BQ_ret (BQ_ret ?_))
      exact ⟨rn [], ⟨⟨⟨_, rfl, vle_bool (by first | exact (storeOk_len (by omega)).symm | exact (storeOk_bad (k := k) (by omega) (namedAt_word (by omega) h15)).symm | exact (storeOk_bad (k := k) (by omega) (namedAt_rel (by omega) h20)).symm | exact (storeOk_bad (k := k) (by omega) (namedAt_order (by omega) (by omega) h36)).symm | exact (storeOk_good hA (by omega) (by omega)).symm | exact (storeOk_good hA (by omega) (by simpa using h43)).symm | exact (storeOk_len (by omega)).symm)⟩, trivial⟩, trivial, trivial, rfl⟩⟩
  · try simp only [decide_eq_true_eq, decide_eq_false_iff_not, Bool.not_eq_true, Bool.not_eq_false, Bool.not_eq_true', Bool.not_eq_false', beq_iff_eq, bne_iff_ne, beq_eq_false_iff_ne, bne_eq_false_iff_eq, Int.not_lt, Int.not_le, ge_iff_le, gt_iff_lt] at h9
    refine AW_condF rfl ?_
    refine AW_exit (BQ_hit ?_)
    refine AW_seq ?_
    refine AW_region ?_
    refine AL_p (x_field (off := 0) (o' := 0) rfl rfl rfl (by kernel_rfl) rfl) ?_
    refine AL_p (x_load1 rfl rfl rfl (by kernel_rfl) rfl) ?_
    refine AL_p (x_len (E := 89) (n := 3) rfl rfl (by kernel_rfl)) ?_
    refine AL_b (x_leq rfl rfl rfl) (fun b43 h43 => ?_)
    refine AL_p (x_assign rfl rfl) ?_
    refine AL_nil ?_
    refine AW_ret ?_
    cases b43
    rotate_left
    · try simp only [decide_eq_true_eq, decide_eq_false_iff_not, Bool.not_eq_true, Bool.not_eq_false, Bool.not_eq_true', Bool.not_eq_false', beq_iff_eq, bne_iff_ne, beq_eq_false_iff_ne, bne_eq_false_iff_eq, Int.not_lt, Int.not_le, ge_iff_le, gt_iff_lt] at h43
      exact ⟨rn [], ⟨⟨⟨_, rfl, vle_bool (by first | exact (storeOk_len (by omega)).symm | exact (storeOk_bad (k := k) (by omega) (namedAt_word (by omega) h15)).symm | exact (storeOk_bad (k := k) (by omega) (namedAt_rel (by omega) h20)).symm | exact (storeOk_bad (k := k) (by omega) (namedAt_order (by omega) (by omega) h36)).symm | exact (storeOk_good hA (by omega) (by omega)).symm | exact (storeOk_good hA (by omega) (by simpa using h43)).symm | exact (storeOk_len (by omega)).symm)⟩, trivial⟩, trivial, trivial, rfl⟩⟩
    · try simp only [decide_eq_true_eq, decide_eq_false_iff_not, Bool.not_eq_true, Bool.not_eq_false, Bool.not_eq_true', Bool.not_eq_false', beq_iff_eq, bne_iff_ne, beq_eq_false_iff_ne, bne_eq_false_iff_eq, Int.not_lt, Int.not_le, ge_iff_le, gt_iff_lt] at h43
      exact ⟨rn [], ⟨⟨⟨_, rfl, vle_bool (by first | exact (storeOk_len (by omega)).symm | exact (storeOk_bad (k := k) (by omega) (namedAt_word (by omega) h15)).symm | exact (storeOk_bad (k := k) (by omega) (namedAt_rel (by omega) h20)).symm | exact (storeOk_bad (k := k) (by omega) (namedAt_order (by omega) (by omega) h36)).symm | exact (storeOk_good hA (by omega) (by omega)).symm | exact (storeOk_good hA (by omega) (by simpa using h43)).symm | exact (storeOk_len (by omega)).symm)⟩, trivial⟩, trivial, trivial, rfl⟩⟩

set_option maxHeartbeats 4000000 in
theorem sameStoreS_c (a b : Storet) (ha : smallStore a) (hb : smallStore b) : AC Try.prog 34 [.agg (storeC a), .agg (storeC b)] [] (.one (.c (.bool (sameStore a b)))) [] := by
  refine AC_body1 Try.func34 rfl rfl Try.ntmps34 rfl Try.results34 ?_
  refine AW_seq ?_
  refine AW_region ?_
  refine AL_p (x_box 100 rfl rfl rfl rfl rfl rfl rfl) ?_
  refine AL_p (x_box 101 rfl rfl rfl rfl rfl rfl rfl) ?_
  refine AL_p (x_assign rfl rfl) ?_
  refine AL_nil ?_
  refine AW_seq ?_
  refine AW_seq ?_
  refine AW_region ?_
  refine AL_p (x_loadN (n := 1) rfl rfl rfl (by kernel_rfl) rfl rfl) ?_
  refine AL_b (x_call0 rfl rfl rfl (storeOkS_c _ (by first | exact ha | exact hb)) rfl rfl) (fun b7 h7 => ?_)
  refine AL_p (x_not rfl rfl) ?_
  refine AL_p (x_move rfl rfl) ?_
  cases b7
  rotate_left
  · try simp only [decide_eq_true_eq, decide_eq_false_iff_not, Bool.not_eq_true, Bool.not_eq_false, Bool.not_eq_true', Bool.not_eq_false', beq_iff_eq, bne_iff_ne, beq_eq_false_iff_ne, bne_eq_false_iff_eq, Int.not_lt, Int.not_le, ge_iff_le, gt_iff_lt] at h7
    refine AL_g rfl rfl (x_loadN (n := 1) rfl rfl rfl (by kernel_rfl) rfl rfl) ?_
    refine AL_gb rfl rfl (x_call0 rfl rfl rfl (storeOkS_c _ (by first | exact ha | exact hb)) rfl rfl) (fun b11 h11 => ?_)
    refine AL_g rfl rfl (x_not rfl rfl) ?_
    refine AL_p (x_pickF rfl rfl rfl) ?_
    refine AL_p (x_move rfl rfl) ?_
    cases b11
    rotate_left
    · try simp only [decide_eq_true_eq, decide_eq_false_iff_not, Bool.not_eq_true, Bool.not_eq_false, Bool.not_eq_true', Bool.not_eq_false', beq_iff_eq, bne_iff_ne, beq_eq_false_iff_ne, bne_eq_false_iff_eq, Int.not_lt, Int.not_le, ge_iff_le, gt_iff_lt] at h11
      refine AL_g rfl rfl (x_field (off := 0) (o' := 0) rfl rfl rfl (by kernel_rfl) rfl) ?_
      refine AL_g rfl rfl (x_load1 rfl rfl rfl (by kernel_rfl) rfl) ?_
      refine AL_g rfl rfl (x_len (E := 89) (n := 3) rfl rfl (by kernel_rfl)) ?_
      refine AL_g rfl rfl (x_field (off := 0) (o' := 0) rfl rfl rfl (by kernel_rfl) rfl) ?_
      refine AL_g rfl rfl (x_load1 rfl rfl rfl (by kernel_rfl) rfl) ?_
      refine AL_g rfl rfl (x_len (E := 89) (n := 3) rfl rfl (by kernel_rfl)) ?_
      refine AL_gb rfl rfl (x_neq rfl rfl rfl) (fun b21 h21 => ?_)
      refine AL_p (x_pickF rfl rfl rfl) ?_
      refine AL_nil ?_
      cases b21
      rotate_left
      · try simp only [decide_eq_true_eq, decide_eq_false_iff_not, Bool.not_eq_true, Bool.not_eq_false, Bool.not_eq_true', Bool.not_eq_false', beq_iff_eq, bne_iff_ne, beq_eq_false_iff_ne, bne_eq_false_iff_eq, Int.not_lt, Int.not_le, ge_iff_le, gt_iff_lt] at h21
        refine AW_condT rfl ?_
        refine AW_seq ?_
        refine AW_region ?_
        refine AL_p (x_assign rfl rfl) ?_
        refine AL_nil ?_
        refine AW_ret ?_
        exact ⟨rn [], ⟨⟨⟨_, rfl, vle_bool (by first | exact (sameStore_a h7).symm | exact (sameStore_b h11).symm | exact (sameStore_len (by omega)).symm | exact (sameStore_at (k := k) (by omega) (by omega) (likeNamed_name h41)).symm | exact (sameStore_at (k := k) (by omega) (by omega) (likeNamed_rel (storeOk_rel h7 (by omega)) (storeOk_rel h11 (by omega)) h55)).symm | exact ((sameStore_ok h7 h11).trans (likeNames_eq (by omega) hA (by omega))).symm)⟩, trivial⟩, trivial, trivial, rfl⟩⟩
      · try simp only [decide_eq_true_eq, decide_eq_false_iff_not, Bool.not_eq_true, Bool.not_eq_false, Bool.not_eq_true', Bool.not_eq_false', beq_iff_eq, bne_iff_ne, beq_eq_false_iff_ne, bne_eq_false_iff_eq, Int.not_lt, Int.not_le, ge_iff_le, gt_iff_lt] at h21
        refine AW_condF rfl ?_
        refine AW_skip ?_
        refine AW_seq ?_
        refine AW_seq ?_
        refine AW_region ?_
        refine AL_p (x_field (off := 0) (o' := 0) rfl rfl rfl (by kernel_rfl) rfl) ?_
        refine AL_p (x_load1 rfl rfl rfl (by kernel_rfl) rfl) ?_
        refine AL_p (x_len (E := 89) (n := 3) rfl rfl (by kernel_rfl)) ?_
        refine AL_p (x_move rfl rfl) ?_
        refine AL_nil ?_
        refine AW_block ?_
        refine AW_loop2 (ι := {q : Nat // q ≤ a.rels.length ∧ LikeN a.rels b.rels q}) (fun p => [(26, .one (.c (.int .i64 ((p.1) : Int))))]) (fun p => []) [2, 3, 25] [100, 101] (fun p => a.rels.length - (p.1)) ⟨0, ⟨by have := ha.1; omega, .zero⟩⟩ (rn []) ?_ ?_
        exact ⟨by (repeat refine ⟨⟨_, rfl, by first | exact VLe.rf | exact vle_int (by dsimp only; omega)⟩, ?_⟩); exact trivial, by (repeat refine ⟨⟨_, rfl, by first | exact BLe.rf | exact BLe.box AllC.rf | exact BLe.arr (by exact rfl)⟩, ?_⟩); exact trivial, by repeat (first | exact trivial | refine ⟨⟨rfl, by first | (left; intro h; cases h) | (right; rfl), fun _ h => ⟨_, h⟩⟩, ?_⟩), rfl⟩
        rintro ⟨k, hinv⟩
        dsimp only
        obtain ⟨hk, hA⟩ := hinv
        have hl := ha.1
        refine AW_seq ?_
        refine AW_region ?_
        refine AL_b (x_lss rfl rfl rfl) (fun b27 h27 => ?_)
        refine AL_nil ?_
        refine AW_seq ?_
        cases b27
        rotate_left
        · try simp only [decide_eq_true_eq, decide_eq_false_iff_not, Bool.not_eq_true, Bool.not_eq_false, Bool.not_eq_true', Bool.not_eq_false', beq_iff_eq, bne_iff_ne, beq_eq_false_iff_ne, bne_eq_false_iff_eq, Int.not_lt, Int.not_le, ge_iff_le, gt_iff_lt] at h27
          refine AW_condT rfl ?_
          refine AW_skip ?_
          refine AW_seq ?_
          refine AW_block ?_
          refine AW_seq ?_
          refine AW_region ?_
          refine AL_p (x_move rfl rfl) ?_
          refine AL_p (x_assign rfl rfl) ?_
          refine AL_nil ?_
          refine AW_seq ?_
          refine AW_draw rfl ?_
          refine AL_p (x_field (off := 0) (o' := 0) rfl rfl rfl (by kernel_rfl) rfl) ?_
          refine AL_p (x_load1 rfl rfl rfl (by kernel_rfl) rfl) ?_
          refine AL_p (x_move rfl rfl) ?_
          refine AL_p (x_index (E := 89) (n := 3) rfl rfl rfl (by kernel_rfl) rfl (k := k) (by omega) (by omega)) ?_
          refine AL_p (x_efield (off := 0) (o' := 0) rfl rfl (by kernel_rfl) rfl) ?_
          refine AL_p (x_eload1 rfl rfl (by kernel_rfl) rfl) ?_
          refine AL_p (x_field (off := 0) (o' := 0) rfl rfl rfl (by kernel_rfl) rfl) ?_
          refine AL_p (x_load1 rfl rfl rfl (by kernel_rfl) rfl) ?_
          refine AL_p (x_move rfl rfl) ?_
          refine AL_p (x_index (E := 89) (n := 3) rfl rfl rfl (by kernel_rfl) rfl (k := k) (by omega) (by omega)) ?_
          refine AL_p (x_efield (off := 0) (o' := 0) rfl rfl (by kernel_rfl) rfl) ?_
          refine AL_p (x_eload1 rfl rfl (by kernel_rfl) rfl) ?_
          refine AL_b (x_sneq rfl rfl rfl) (fun b41 h41 => ?_)
          refine AL_p (x_move rfl rfl) ?_
          cases b41
          rotate_left
          · try simp only [decide_eq_true_eq, decide_eq_false_iff_not, Bool.not_eq_true, Bool.not_eq_false, Bool.not_eq_true', Bool.not_eq_false', beq_iff_eq, bne_iff_ne, beq_eq_false_iff_ne, bne_eq_false_iff_eq, Int.not_lt, Int.not_le, ge_iff_le, gt_iff_lt] at h41
            refine AL_o rfl rfl rfl rfl ?_
            refine AL_o rfl rfl rfl rfl ?_
            refine AL_o rfl rfl rfl rfl ?_
            refine AL_o rfl rfl rfl rfl ?_
            refine AL_o rfl rfl rfl rfl ?_
            refine AL_o rfl rfl rfl rfl ?_
            refine AL_o rfl rfl rfl rfl ?_
            refine AL_o rfl rfl rfl rfl ?_
            refine AL_o rfl rfl rfl rfl ?_
            refine AL_o rfl rfl rfl rfl ?_
            refine AL_o rfl rfl rfl rfl ?_
            refine AL_o rfl rfl rfl rfl ?_
            refine AL_o rfl rfl rfl rfl ?_
            refine AL_o rfl rfl rfl rfl ?_
            refine AL_p (x_pickT rfl rfl rfl) ?_
            refine AL_nild (by kernel_rfl) ?_
            refine AW_condT rfl ?_
            refine AW_seq ?_
            refine AW_region ?_
            refine AL_p (x_assign rfl rfl) ?_
            refine AL_nil ?_
            refine AW_ret (BQ_ret (BQ_ret ?_))
            exact ⟨rn [], ⟨⟨⟨_, rfl, vle_bool (by first | exact (sameStore_a h7).symm | exact (sameStore_b h11).symm | exact (sameStore_len (by omega)).symm | exact (sameStore_at (k := k) (by omega) (by omega) (likeNamed_name h41)).symm | exact (sameStore_at (k := k) (by omega) (by omega) (likeNamed_rel (storeOk_rel h7 (by omega)) (storeOk_rel h11 (by omega)) h55)).symm | exact ((sameStore_ok h7 h11).trans (likeNames_eq (by omega) hA (by omega))).symm)⟩, trivial⟩, trivial, trivial, rfl⟩⟩
          · try simp only [decide_eq_true_eq, decide_eq_false_iff_not, Bool.not_eq_true, Bool.not_eq_false, Bool.not_eq_true', Bool.not_eq_false', beq_iff_eq, bne_iff_ne, beq_eq_false_iff_ne, bne_eq_false_iff_eq, Int.not_lt, Int.not_le, ge_iff_le, gt_iff_lt] at h41
            refine AL_g rfl rfl (x_field (off := 0) (o' := 0) rfl rfl rfl (by kernel_rfl) rfl) ?_
            refine AL_g rfl rfl (x_load1 rfl rfl rfl (by kernel_rfl) rfl) ?_
            refine AL_g rfl rfl (x_move rfl rfl) ?_
            refine AL_g rfl rfl (x_index (E := 89) (n := 3) rfl rfl rfl (by kernel_rfl) rfl (k := k) (by omega) (by omega)) ?_
            refine AL_g rfl rfl (x_efield (off := 1) (o' := 1) rfl rfl (by kernel_rfl) rfl) ?_
            refine AL_g rfl rfl (x_eloadN (n := 2) rfl rfl (by kernel_rfl) rfl rfl) ?_
            refine AL_g rfl rfl (x_field (off := 0) (o' := 0) rfl rfl rfl (by kernel_rfl) rfl) ?_
            refine AL_g rfl rfl (x_load1 rfl rfl rfl (by kernel_rfl) rfl) ?_
            refine AL_g rfl rfl (x_move rfl rfl) ?_
            refine AL_g rfl rfl (x_index (E := 89) (n := 3) rfl rfl rfl (by kernel_rfl) rfl (k := k) (by omega) (by omega)) ?_
            refine AL_g rfl rfl (x_efield (off := 1) (o' := 1) rfl rfl (by kernel_rfl) rfl) ?_
            refine AL_g rfl rfl (x_eloadN (n := 2) rfl rfl (by kernel_rfl) rfl rfl) ?_
            refine AL_gb rfl rfl (x_call0 rfl rfl rfl (sameRelS_c _ _ (ha.2 _ (List.getElem_mem _)).2 (hb.2 _ (List.getElem_mem _)).2) rfl rfl) (fun b55 h55 => ?_)
            refine AL_g rfl rfl (x_not rfl rfl) ?_
            refine AL_p (x_pickF rfl rfl rfl) ?_
            refine AL_nild (by kernel_rfl) ?_
            cases b55
            rotate_left
            · try simp only [decide_eq_true_eq, decide_eq_false_iff_not, Bool.not_eq_true, Bool.not_eq_false, Bool.not_eq_true', Bool.not_eq_false', beq_iff_eq, bne_iff_ne, beq_eq_false_iff_ne, bne_eq_false_iff_eq, Int.not_lt, Int.not_le, ge_iff_le, gt_iff_lt] at h55
              refine AW_condF rfl ?_
              refine AW_skip ?_
              refine AW_region ?_
              refine AL_p (x_add rfl rfl rfl (IntWalk.i64_in _ (by omega))) ?_
              refine AL_p (x_move rfl rfl) ?_
              refine AL_nil ?_
              refine ⟨⟨k + 1, ⟨by omega, hA.succ (by omega) (by omega) (likeNamed_yes (storeOk_rel h7 (by omega)) (storeOk_rel h11 (by omega)) h41 h55)⟩⟩, rn [], ?_, by dsimp only; omega⟩
              exact ⟨by (repeat refine ⟨⟨_, rfl, by first | exact VLe.rf | exact vle_int (by dsimp only; omega)⟩, ?_⟩); exact trivial, by (repeat refine ⟨⟨_, rfl, by first | exact BLe.rf | exact BLe.box AllC.rf | exact BLe.arr (by exact rfl)⟩, ?_⟩); exact trivial, by repeat (first | exact trivial | refine ⟨⟨rfl, by first | (left; intro h; cases h) | (right; rfl), fun _ h => ⟨_, h⟩⟩, ?_⟩), rfl⟩
            · try simp only [decide_eq_true_eq, decide_eq_false_iff_not, Bool.not_eq_true, Bool.not_eq_false, Bool.not_eq_true', Bool.not_eq_false', beq_iff_eq, bne_iff_ne, beq_eq_false_iff_ne, bne_eq_false_iff_eq, Int.not_lt, Int.not_le, ge_iff_le, gt_iff_lt] at h55
              refine AW_condT rfl ?_
              refine AW_seq ?_
              refine AW_region ?_
              refine AL_p (x_assign rfl rfl) ?_
              refine AL_nil ?_
              refine AW_ret (BQ_ret (BQ_ret ?_))
              exact ⟨rn [], ⟨⟨⟨_, rfl, vle_bool (by first | exact (sameStore_a h7).symm | exact (sameStore_b h11).symm | exact (sameStore_len (by omega)).symm | exact (sameStore_at (k := k) (by omega) (by omega) (likeNamed_name h41)).symm | exact (sameStore_at (k := k) (by omega) (by omega) (likeNamed_rel (storeOk_rel h7 (by omega)) (storeOk_rel h11 (by omega)) h55)).symm | exact ((sameStore_ok h7 h11).trans (likeNames_eq (by omega) hA (by omega))).symm)⟩, trivial⟩, trivial, trivial, rfl⟩⟩
        · try simp only [decide_eq_true_eq, decide_eq_false_iff_not, Bool.not_eq_true, Bool.not_eq_false, Bool.not_eq_true', Bool.not_eq_false', beq_iff_eq, bne_iff_ne, beq_eq_false_iff_ne, bne_eq_false_iff_eq, Int.not_lt, Int.not_le, ge_iff_le, gt_iff_lt] at h27
          refine AW_condF rfl ?_
          refine AW_exit (BQ_hit ?_)
          refine AW_seq ?_
          refine AW_region ?_
          refine AL_p (x_assign rfl rfl) ?_
          refine AL_nil ?_
          refine AW_ret ?_
          exact ⟨rn [], ⟨⟨⟨_, rfl, vle_bool (by first | exact (sameStore_a h7).symm | exact (sameStore_b h11).symm | exact (sameStore_len (by omega)).symm | exact (sameStore_at (k := k) (by omega) (by omega) (likeNamed_name h41)).symm | exact (sameStore_at (k := k) (by omega) (by omega) (likeNamed_rel (storeOk_rel h7 (by omega)) (storeOk_rel h11 (by omega)) h55)).symm | exact ((sameStore_ok h7 h11).trans (likeNames_eq (by omega) hA (by omega))).symm)⟩, trivial⟩, trivial, trivial, rfl⟩⟩
    · try simp only [decide_eq_true_eq, decide_eq_false_iff_not, Bool.not_eq_true, Bool.not_eq_false, Bool.not_eq_true', Bool.not_eq_false', beq_iff_eq, bne_iff_ne, beq_eq_false_iff_ne, bne_eq_false_iff_eq, Int.not_lt, Int.not_le, ge_iff_le, gt_iff_lt] at h11
      refine AL_o rfl rfl rfl rfl ?_
      refine AL_o rfl rfl rfl rfl ?_
      refine AL_o rfl rfl rfl rfl ?_
      refine AL_o rfl rfl rfl rfl ?_
      refine AL_o rfl rfl rfl rfl ?_
      refine AL_o rfl rfl rfl rfl ?_
      refine AL_o rfl rfl rfl rfl ?_
      refine AL_p (x_pickT rfl rfl rfl) ?_
      refine AL_nil ?_
      refine AW_condT rfl ?_
      refine AW_seq ?_
      refine AW_region ?_
      refine AL_p (x_assign rfl rfl) ?_
      refine AL_nil ?_
      refine AW_ret ?_
      exact ⟨rn [], ⟨⟨⟨_, rfl, vle_bool (by first | exact (sameStore_a h7).symm | exact (sameStore_b h11).symm | exact (sameStore_len (by omega)).symm | exact (sameStore_at (k := k) (by omega) (by omega) (likeNamed_name h41)).symm | exact (sameStore_at (k := k) (by omega) (by omega) (likeNamed_rel (storeOk_rel h7 (by omega)) (storeOk_rel h11 (by omega)) h55)).symm | exact ((sameStore_ok h7 h11).trans (likeNames_eq (by omega) hA (by omega))).symm)⟩, trivial⟩, trivial, trivial, rfl⟩⟩
  · try simp only [decide_eq_true_eq, decide_eq_false_iff_not, Bool.not_eq_true, Bool.not_eq_false, Bool.not_eq_true', Bool.not_eq_false', beq_iff_eq, bne_iff_ne, beq_eq_false_iff_ne, bne_eq_false_iff_eq, Int.not_lt, Int.not_le, ge_iff_le, gt_iff_lt] at h7
    refine AL_o rfl rfl rfl rfl ?_
    refine AL_o rfl rfl rfl rfl ?_
    refine AL_o rfl rfl rfl rfl ?_
    refine AL_p (x_pickT rfl rfl rfl) ?_
    refine AL_p (x_move rfl rfl) ?_
    refine AL_o rfl rfl rfl rfl ?_
    refine AL_o rfl rfl rfl rfl ?_
    refine AL_o rfl rfl rfl rfl ?_
    refine AL_o rfl rfl rfl rfl ?_
    refine AL_o rfl rfl rfl rfl ?_
    refine AL_o rfl rfl rfl rfl ?_
    refine AL_o rfl rfl rfl rfl ?_
    refine AL_p (x_pickT rfl rfl rfl) ?_
    refine AL_nil ?_
    refine AW_condT rfl ?_
    refine AW_seq ?_
    refine AW_region ?_
    refine AL_p (x_assign rfl rfl) ?_
    refine AL_nil ?_
    refine AW_ret ?_
    exact ⟨rn [], ⟨⟨⟨_, rfl, vle_bool (by first | exact (sameStore_a h7).symm | exact (sameStore_b h11).symm | exact (sameStore_len (by omega)).symm | exact (sameStore_at (k := k) (by omega) (by omega) (likeNamed_name h41)).symm | exact (sameStore_at (k := k) (by omega) (by omega) (likeNamed_rel (storeOk_rel h7 (by omega)) (storeOk_rel h11 (by omega)) h55)).symm | exact ((sameStore_ok h7 h11).trans (likeNames_eq (by omega) hA (by omega))).symm)⟩, trivial⟩, trivial, trivial, rfl⟩⟩

set_option maxHeartbeats 4000000 in
theorem likeNamedI_c (a b : Namedt) (ha : smallNamed a) : AC Try.prog 123 [.agg (namedC a), .agg (namedC b)] [] (.one (.c (.bool (likeNamed a b)))) [] := by
  refine AC_body1 Try.func123 rfl rfl Try.ntmps123 rfl Try.results123 ?_
  refine AW_seq ?_
  refine AW_region ?_
  refine AL_p (x_box 100 rfl rfl rfl rfl rfl rfl rfl) ?_
  refine AL_p (x_box 101 rfl rfl rfl rfl rfl rfl rfl) ?_
  refine AL_p (x_assign rfl rfl) ?_
  refine AL_nil ?_
  refine AW_seq ?_
  refine AW_region ?_
  refine AL_p (x_field (off := 0) (o' := 0) rfl rfl rfl (by kernel_rfl) rfl) ?_
  refine AL_p (x_load1 rfl rfl rfl (by kernel_rfl) rfl) ?_
  refine AL_p (x_field (off := 0) (o' := 0) rfl rfl rfl (by kernel_rfl) rfl) ?_
  refine AL_p (x_load1 rfl rfl rfl (by kernel_rfl) rfl) ?_
  refine AL_b (x_seql rfl rfl rfl) (fun b9 h9 => ?_)
  refine AL_p (x_move rfl rfl) ?_
  cases b9
  rotate_left
  · try simp only [decide_eq_true_eq, decide_eq_false_iff_not, Bool.not_eq_true, Bool.not_eq_false, Bool.not_eq_true', Bool.not_eq_false', beq_iff_eq, bne_iff_ne, beq_eq_false_iff_ne, bne_eq_false_iff_eq, Int.not_lt, Int.not_le, ge_iff_le, gt_iff_lt] at h9
    refine AL_g rfl rfl (x_field (off := 1) (o' := 1) rfl rfl rfl (by kernel_rfl) rfl) ?_
    refine AL_g rfl rfl (x_loadN (n := 2) rfl rfl rfl (by kernel_rfl) rfl rfl) ?_
    refine AL_g rfl rfl (x_field (off := 1) (o' := 1) rfl rfl rfl (by kernel_rfl) rfl) ?_
    refine AL_g rfl rfl (x_loadN (n := 2) rfl rfl rfl (by kernel_rfl) rfl rfl) ?_
    refine AL_gb rfl rfl (x_call0 rfl rfl rfl (likeRelI_c ⟨_, _⟩ ⟨_, _⟩ ha.2) rfl rfl) (fun b15 h15 => ?_)
    refine AL_p (x_pickT rfl rfl rfl) ?_
    refine AL_p (x_assign rfl rfl) ?_
    refine AL_nil ?_
    refine AW_ret ?_
    cases b15
    rotate_left
    · try simp only [decide_eq_true_eq, decide_eq_false_iff_not, Bool.not_eq_true, Bool.not_eq_false, Bool.not_eq_true', Bool.not_eq_false', beq_iff_eq, bne_iff_ne, beq_eq_false_iff_ne, bne_eq_false_iff_eq, Int.not_lt, Int.not_le, ge_iff_le, gt_iff_lt] at h15
      exact ⟨rn [], ⟨⟨⟨_, rfl, vle_bool (by first | exact (likeNamed_name h9).symm | exact ((likeNamed_ok h9).trans h15).symm)⟩, trivial⟩, trivial, trivial, rfl⟩⟩
    · try simp only [decide_eq_true_eq, decide_eq_false_iff_not, Bool.not_eq_true, Bool.not_eq_false, Bool.not_eq_true', Bool.not_eq_false', beq_iff_eq, bne_iff_ne, beq_eq_false_iff_ne, bne_eq_false_iff_eq, Int.not_lt, Int.not_le, ge_iff_le, gt_iff_lt] at h15
      exact ⟨rn [], ⟨⟨⟨_, rfl, vle_bool (by first | exact (likeNamed_name h9).symm | exact ((likeNamed_ok h9).trans h15).symm)⟩, trivial⟩, trivial, trivial, rfl⟩⟩
  · try simp only [decide_eq_true_eq, decide_eq_false_iff_not, Bool.not_eq_true, Bool.not_eq_false, Bool.not_eq_true', Bool.not_eq_false', beq_iff_eq, bne_iff_ne, beq_eq_false_iff_ne, bne_eq_false_iff_eq, Int.not_lt, Int.not_le, ge_iff_le, gt_iff_lt] at h9
    refine AL_o rfl rfl rfl rfl ?_
    refine AL_o rfl rfl rfl rfl ?_
    refine AL_o rfl rfl rfl rfl ?_
    refine AL_o rfl rfl rfl rfl ?_
    refine AL_o rfl rfl rfl rfl ?_
    refine AL_p (x_pickF rfl rfl rfl) ?_
    refine AL_p (x_assign rfl rfl) ?_
    refine AL_nil ?_
    refine AW_ret ?_
    exact ⟨rn [], ⟨⟨⟨_, rfl, vle_bool (by first | exact (likeNamed_name h9).symm | exact ((likeNamed_ok h9).trans h15).symm)⟩, trivial⟩, trivial, trivial, rfl⟩⟩

set_option maxHeartbeats 4000000 in
theorem eqNames_c (a b : List Namedt) (ha : a.length ≤ 1048576) (hm : ∀ r ∈ a, smallNamed r) : AC Try.prog 122 [.one (.sl namedE a), .one (.sl namedE b), .one (.clo 123 [])] [] (.one (.c (.bool (likeNames a b)))) [] := by
  refine AC_body1 Try.func122 rfl rfl Try.ntmps122 rfl Try.results122 ?_
  refine AW_seq ?_
  refine AW_region ?_
  refine AL_p (x_assign rfl rfl) ?_
  refine AL_nil ?_
  refine AW_seq ?_
  refine AW_seq ?_
  refine AW_region ?_
  refine AL_p (x_move rfl rfl) ?_
  refine AL_p (x_len (E := 89) (n := 3) rfl rfl (by kernel_rfl)) ?_
  refine AL_p (x_move rfl rfl) ?_
  refine AL_p (x_len (E := 89) (n := 3) rfl rfl (by kernel_rfl)) ?_
  refine AL_b (x_neq rfl rfl rfl) (fun b14 h14 => ?_)
  refine AL_nil ?_
  cases b14
  rotate_left
  · try simp only [decide_eq_true_eq, decide_eq_false_iff_not, Bool.not_eq_true, Bool.not_eq_false, Bool.not_eq_true', Bool.not_eq_false', beq_iff_eq, bne_iff_ne, beq_eq_false_iff_ne, bne_eq_false_iff_eq, Int.not_lt, Int.not_le, ge_iff_le, gt_iff_lt] at h14
    refine AW_condT rfl ?_
    refine AW_seq ?_
    refine AW_region ?_
    refine AL_p (x_assign rfl rfl) ?_
    refine AL_nil ?_
    refine AW_ret ?_
    exact ⟨rn [], ⟨⟨⟨_, rfl, vle_bool (by first | exact (likeNames_len (by omega)).symm | exact (likeNames_at (k := k) (by omega) (by omega) h29).symm | exact (likeNames_eq (by omega) hs (by omega)).symm)⟩, trivial⟩, trivial, trivial, rfl⟩⟩
  · try simp only [decide_eq_true_eq, decide_eq_false_iff_not, Bool.not_eq_true, Bool.not_eq_false, Bool.not_eq_true', Bool.not_eq_false', beq_iff_eq, bne_iff_ne, beq_eq_false_iff_ne, bne_eq_false_iff_eq, Int.not_lt, Int.not_le, ge_iff_le, gt_iff_lt] at h14
    refine AW_condF rfl ?_
    refine AW_skip ?_
    refine AW_seq ?_
    refine AW_seq ?_
    refine AW_region ?_
    refine AL_p (x_move rfl rfl) ?_
    refine AL_p (x_len (E := 89) (n := 3) rfl rfl (by kernel_rfl)) ?_
    refine AL_p (x_move rfl rfl) ?_
    refine AL_nil ?_
    refine AW_block ?_
    refine AW_loop2 (ι := {q : Nat // q ≤ a.length ∧ LikeN a b q}) (fun p => [(17, .one (.c (.int .i64 ((p.1) : Int))))]) (fun p => []) [1, 2, 15, 16] [] (fun p => a.length - (p.1)) ⟨0, ⟨by omega, .zero⟩⟩ (rn []) ?_ ?_
    exact ⟨by (repeat refine ⟨⟨_, rfl, by first | exact VLe.rf | exact vle_int (by dsimp only; omega)⟩, ?_⟩); exact trivial, by (repeat refine ⟨⟨_, rfl, by first | exact BLe.rf | exact BLe.box AllC.rf | exact BLe.arr (by exact rfl)⟩, ?_⟩); exact trivial, by repeat (first | exact trivial | refine ⟨⟨rfl, by first | (left; intro h; cases h) | (right; rfl), fun _ h => ⟨_, h⟩⟩, ?_⟩), rfl⟩
    rintro ⟨k, hinv⟩
    dsimp only
    obtain ⟨hk, hs⟩ := hinv
    refine AW_seq ?_
    refine AW_region ?_
    refine AL_b (x_lss rfl rfl rfl) (fun b18 h18 => ?_)
    refine AL_nil ?_
    refine AW_seq ?_
    cases b18
    rotate_left
    · try simp only [decide_eq_true_eq, decide_eq_false_iff_not, Bool.not_eq_true, Bool.not_eq_false, Bool.not_eq_true', Bool.not_eq_false', beq_iff_eq, bne_iff_ne, beq_eq_false_iff_ne, bne_eq_false_iff_eq, Int.not_lt, Int.not_le, ge_iff_le, gt_iff_lt] at h18
      refine AW_condT rfl ?_
      refine AW_skip ?_
      refine AW_seq ?_
      refine AW_block ?_
      refine AW_seq ?_
      refine AW_region ?_
      refine AL_p (x_move rfl rfl) ?_
      refine AL_p (x_index (E := 89) (n := 3) rfl rfl rfl (by kernel_rfl) rfl rfl (by omega)) ?_
      refine AL_p (x_eloadW (n := 3) rfl rfl (by kernel_rfl) rfl) ?_
      refine AL_p (x_alloc (z := .agg #[.string ⟨#[]⟩, .int .i64 0, .slice none 0 0]) 100 rfl (by kernel_rfl) rfl rfl rfl rfl) ?_
      refine AL_p (x_assign rfl rfl) ?_
      refine AL_p (x_store (n := 3) rfl rfl rfl rfl (by kernel_rfl) rfl rfl rfl) ?_
      refine AL_nil ?_
      refine AW_seq ?_
      refine AW_region ?_
      refine AL_p (x_move rfl rfl) ?_
      refine AL_p (x_move rfl rfl) ?_
      refine AL_p (x_index (E := 89) (n := 3) rfl rfl rfl (by kernel_rfl) rfl (k := k) (by omega) (by omega)) ?_
      refine AL_p (x_eloadW (n := 3) rfl rfl (by kernel_rfl) rfl) ?_
      refine AL_p (x_alloc (z := .agg #[.string ⟨#[]⟩, .int .i64 0, .slice none 0 0]) 101 rfl (by kernel_rfl) rfl rfl rfl rfl) ?_
      refine AL_p (x_store (n := 3) rfl rfl rfl rfl (by kernel_rfl) rfl rfl rfl) ?_
      refine AL_nil ?_
      refine AW_seq ?_
      refine AW_region ?_
      refine AL_p (x_move rfl rfl) ?_
      refine AL_p (x_loadN (n := 3) rfl rfl rfl (by kernel_rfl) rfl rfl) ?_
      refine AL_p (x_loadN (n := 3) rfl rfl rfl (by kernel_rfl) rfl rfl) ?_
      refine AL_b (x_call0 rfl rfl rfl (likeNamedI_c _ _ (hm _ (List.getElem_mem _))) rfl rfl) (fun b29 h29 => ?_)
      refine AL_p (x_not rfl rfl) ?_
      refine AL_nil ?_
      cases b29
      rotate_left
      · try simp only [decide_eq_true_eq, decide_eq_false_iff_not, Bool.not_eq_true, Bool.not_eq_false, Bool.not_eq_true', Bool.not_eq_false', beq_iff_eq, bne_iff_ne, beq_eq_false_iff_ne, bne_eq_false_iff_eq, Int.not_lt, Int.not_le, ge_iff_le, gt_iff_lt] at h29
        refine AW_condF rfl ?_
        refine AW_skip ?_
        refine AW_region ?_
        refine AL_p (x_add rfl rfl rfl (IntWalk.i64_in _ (by omega))) ?_
        refine AL_p (x_move rfl rfl) ?_
        refine AL_nil ?_
        refine ⟨⟨k + 1, ⟨by omega, hs.succ (by omega) (by omega) h29⟩⟩, rn [], ?_, by dsimp only; omega⟩
        exact ⟨by (repeat refine ⟨⟨_, rfl, by first | exact VLe.rf | exact vle_int (by dsimp only; omega)⟩, ?_⟩); exact trivial, by (repeat refine ⟨⟨_, rfl, by first | exact BLe.rf | exact BLe.box AllC.rf | exact BLe.arr (by exact rfl)⟩, ?_⟩); exact trivial, by repeat (first | exact trivial | refine ⟨⟨rfl, by first | (left; intro h; cases h) | (right; rfl), fun _ h => ⟨_, h⟩⟩, ?_⟩), rfl⟩
      · try simp only [decide_eq_true_eq, decide_eq_false_iff_not, Bool.not_eq_true, Bool.not_eq_false, Bool.not_eq_true', Bool.not_eq_false', beq_iff_eq, bne_iff_ne, beq_eq_false_iff_ne, bne_eq_false_iff_eq, Int.not_lt, Int.not_le, ge_iff_le, gt_iff_lt] at h29
        refine AW_condT rfl ?_
        refine AW_seq ?_
        refine AW_region ?_
        refine AL_p (x_assign rfl rfl) ?_
        refine AL_nil ?_
        refine AW_ret (BQ_ret (BQ_ret ?_))
        exact ⟨rn [], ⟨⟨⟨_, rfl, vle_bool (by first | exact (likeNames_len (by omega)).symm | exact (likeNames_at (k := k) (by omega) (by omega) h29).symm | exact (likeNames_eq (by omega) hs (by omega)).symm)⟩, trivial⟩, trivial, trivial, rfl⟩⟩
    · try simp only [decide_eq_true_eq, decide_eq_false_iff_not, Bool.not_eq_true, Bool.not_eq_false, Bool.not_eq_true', Bool.not_eq_false', beq_iff_eq, bne_iff_ne, beq_eq_false_iff_ne, bne_eq_false_iff_eq, Int.not_lt, Int.not_le, ge_iff_le, gt_iff_lt] at h18
      refine AW_condF rfl ?_
      refine AW_exit (BQ_hit ?_)
      refine AW_seq ?_
      refine AW_region ?_
      refine AL_p (x_assign rfl rfl) ?_
      refine AL_nil ?_
      refine AW_ret ?_
      exact ⟨rn [], ⟨⟨⟨_, rfl, vle_bool (by first | exact (likeNames_len (by omega)).symm | exact (likeNames_at (k := k) (by omega) (by omega) h29).symm | exact (likeNames_eq (by omega) hs (by omega)).symm)⟩, trivial⟩, trivial, trivial, rfl⟩⟩

set_option maxHeartbeats 4000000 in
theorem likeStoreI_c (a b : Storet) (ha : smallStore a) : AC Try.prog 82 [.agg (storeC a), .agg (storeC b)] [] (.one (.c (.bool (likeNames a.rels b.rels)))) [] := by
  refine AC_body1 Try.func82 rfl rfl Try.ntmps82 rfl Try.results82 ?_
  refine AW_seq ?_
  refine AW_region ?_
  refine AL_p (x_box 100 rfl rfl rfl rfl rfl rfl rfl) ?_
  refine AL_p (x_box 101 rfl rfl rfl rfl rfl rfl rfl) ?_
  refine AL_p (x_assign rfl rfl) ?_
  refine AL_nil ?_
  refine AW_seq ?_
  refine AW_region ?_
  refine AL_p (x_field (off := 0) (o' := 0) rfl rfl rfl (by kernel_rfl) rfl) ?_
  refine AL_p (x_load1 rfl rfl rfl (by kernel_rfl) rfl) ?_
  refine AL_p (x_field (off := 0) (o' := 0) rfl rfl rfl (by kernel_rfl) rfl) ?_
  refine AL_p (x_load1 rfl rfl rfl (by kernel_rfl) rfl) ?_
  refine AL_b (x_call0 rfl rfl rfl (eqNames_c _ _ ha.1 ha.2) rfl rfl) (fun b9 h9 => ?_)
  refine AL_p (x_assign rfl rfl) ?_
  refine AL_nil ?_
  refine AW_ret ?_
  cases b9
  rotate_left
  · try simp only [decide_eq_true_eq, decide_eq_false_iff_not, Bool.not_eq_true, Bool.not_eq_false, Bool.not_eq_true', Bool.not_eq_false', beq_iff_eq, bne_iff_ne, beq_eq_false_iff_ne, bne_eq_false_iff_eq, Int.not_lt, Int.not_le, ge_iff_le, gt_iff_lt] at h9
    exact ⟨rn [], ⟨⟨⟨_, rfl, vle_bool (h9.symm)⟩, trivial⟩, trivial, trivial, rfl⟩⟩
  · try simp only [decide_eq_true_eq, decide_eq_false_iff_not, Bool.not_eq_true, Bool.not_eq_false, Bool.not_eq_true', Bool.not_eq_false', beq_iff_eq, bne_iff_ne, beq_eq_false_iff_ne, bne_eq_false_iff_eq, Int.not_lt, Int.not_le, ge_iff_le, gt_iff_lt] at h9
    exact ⟨rn [], ⟨⟨⟨_, rfl, vle_bool (h9.symm)⟩, trivial⟩, trivial, trivial, rfl⟩⟩

set_option maxHeartbeats 4000000 in
theorem sameStoreI_c (a b : Storet) (ha : smallStore a) (hb : smallStore b) : AC Try.prog 33 [.agg (storeC a), .agg (storeC b)] [] (.one (.c (.bool (sameStore a b)))) [] := by
  refine AC_body1 Try.func33 rfl rfl Try.ntmps33 rfl Try.results33 ?_
  refine AW_seq ?_
  refine AW_region ?_
  refine AL_p (x_box 100 rfl rfl rfl rfl rfl rfl rfl) ?_
  refine AL_p (x_box 101 rfl rfl rfl rfl rfl rfl rfl) ?_
  refine AL_p (x_assign rfl rfl) ?_
  refine AL_nil ?_
  refine AW_seq ?_
  refine AW_region ?_
  refine AL_p (x_loadN (n := 1) rfl rfl rfl (by kernel_rfl) rfl rfl) ?_
  refine AL_b (x_call0 rfl rfl rfl (storeOkI_c _ (by first | exact ha | exact hb)) rfl rfl) (fun b6 h6 => ?_)
  refine AL_p (x_move rfl rfl) ?_
  cases b6
  rotate_left
  · try simp only [decide_eq_true_eq, decide_eq_false_iff_not, Bool.not_eq_true, Bool.not_eq_false, Bool.not_eq_true', Bool.not_eq_false', beq_iff_eq, bne_iff_ne, beq_eq_false_iff_ne, bne_eq_false_iff_eq, Int.not_lt, Int.not_le, ge_iff_le, gt_iff_lt] at h6
    refine AL_g rfl rfl (x_loadN (n := 1) rfl rfl rfl (by kernel_rfl) rfl rfl) ?_
    refine AL_gb rfl rfl (x_call0 rfl rfl rfl (storeOkI_c _ (by first | exact ha | exact hb)) rfl rfl) (fun b9 h9 => ?_)
    refine AL_p (x_pickT rfl rfl rfl) ?_
    refine AL_p (x_move rfl rfl) ?_
    cases b9
    rotate_left
    · try simp only [decide_eq_true_eq, decide_eq_false_iff_not, Bool.not_eq_true, Bool.not_eq_false, Bool.not_eq_true', Bool.not_eq_false', beq_iff_eq, bne_iff_ne, beq_eq_false_iff_ne, bne_eq_false_iff_eq, Int.not_lt, Int.not_le, ge_iff_le, gt_iff_lt] at h9
      refine AL_g rfl rfl (x_loadN (n := 1) rfl rfl rfl (by kernel_rfl) rfl rfl) ?_
      refine AL_g rfl rfl (x_loadN (n := 1) rfl rfl rfl (by kernel_rfl) rfl rfl) ?_
      refine AL_gb rfl rfl (x_call0 rfl rfl rfl (likeStoreI_c _ _ ha) rfl rfl) (fun b14 h14 => ?_)
      refine AL_p (x_pickT rfl rfl rfl) ?_
      refine AL_p (x_assign rfl rfl) ?_
      refine AL_nil ?_
      refine AW_ret ?_
      cases b14
      rotate_left
      · try simp only [decide_eq_true_eq, decide_eq_false_iff_not, Bool.not_eq_true, Bool.not_eq_false, Bool.not_eq_true', Bool.not_eq_false', beq_iff_eq, bne_iff_ne, beq_eq_false_iff_ne, bne_eq_false_iff_eq, Int.not_lt, Int.not_le, ge_iff_le, gt_iff_lt] at h14
        exact ⟨rn [], ⟨⟨⟨_, rfl, vle_bool (by first | exact (sameStore_a h6).symm | exact (sameStore_b h9).symm | exact ((sameStore_ok h6 h9).trans h14).symm)⟩, trivial⟩, trivial, trivial, rfl⟩⟩
      · try simp only [decide_eq_true_eq, decide_eq_false_iff_not, Bool.not_eq_true, Bool.not_eq_false, Bool.not_eq_true', Bool.not_eq_false', beq_iff_eq, bne_iff_ne, beq_eq_false_iff_ne, bne_eq_false_iff_eq, Int.not_lt, Int.not_le, ge_iff_le, gt_iff_lt] at h14
        exact ⟨rn [], ⟨⟨⟨_, rfl, vle_bool (by first | exact (sameStore_a h6).symm | exact (sameStore_b h9).symm | exact ((sameStore_ok h6 h9).trans h14).symm)⟩, trivial⟩, trivial, trivial, rfl⟩⟩
    · try simp only [decide_eq_true_eq, decide_eq_false_iff_not, Bool.not_eq_true, Bool.not_eq_false, Bool.not_eq_true', Bool.not_eq_false', beq_iff_eq, bne_iff_ne, beq_eq_false_iff_ne, bne_eq_false_iff_eq, Int.not_lt, Int.not_le, ge_iff_le, gt_iff_lt] at h9
      refine AL_o rfl rfl rfl rfl ?_
      refine AL_o rfl rfl rfl rfl ?_
      refine AL_o rfl rfl rfl rfl ?_
      refine AL_p (x_pickF rfl rfl rfl) ?_
      refine AL_p (x_assign rfl rfl) ?_
      refine AL_nil ?_
      refine AW_ret ?_
      exact ⟨rn [], ⟨⟨⟨_, rfl, vle_bool (by first | exact (sameStore_a h6).symm | exact (sameStore_b h9).symm | exact ((sameStore_ok h6 h9).trans h14).symm)⟩, trivial⟩, trivial, trivial, rfl⟩⟩
  · try simp only [decide_eq_true_eq, decide_eq_false_iff_not, Bool.not_eq_true, Bool.not_eq_false, Bool.not_eq_true', Bool.not_eq_false', beq_iff_eq, bne_iff_ne, beq_eq_false_iff_ne, bne_eq_false_iff_eq, Int.not_lt, Int.not_le, ge_iff_le, gt_iff_lt] at h6
    refine AL_o rfl rfl rfl rfl ?_
    refine AL_o rfl rfl rfl rfl ?_
    refine AL_p (x_pickF rfl rfl rfl) ?_
    refine AL_p (x_move rfl rfl) ?_
    refine AL_o rfl rfl rfl rfl ?_
    refine AL_o rfl rfl rfl rfl ?_
    refine AL_o rfl rfl rfl rfl ?_
    refine AL_p (x_pickF rfl rfl rfl) ?_
    refine AL_p (x_assign rfl rfl) ?_
    refine AL_nil ?_
    refine AW_ret ?_
    exact ⟨rn [], ⟨⟨⟨_, rfl, vle_bool (by first | exact (sameStore_a h6).symm | exact (sameStore_b h9).symm | exact ((sameStore_ok h6 h9).trans h14).symm)⟩, trivial⟩, trivial, trivial, rfl⟩⟩
end Go.Proofs.Ytibhoanjglfaoaa

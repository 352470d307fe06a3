/- Lemmas of the walks, part 7. -/
import Derived.Test.YtfdpigafekohgaaM6
/- The abstract walk: contracts that leave open what a function returns; it is something good. -/
namespace Go.Proofs.Ytfdpigafekohgaa
open Go.RowKit
set_option linter.unusedVariables false

/-- Called with such arguments, the function returns one of some values. -/
structure AX (P : Program) (f : FuncId) (args : List AVal) (L : Locs) {ι : Type} (G : ι → Prop) (res : ι → AVal) (L' : ι → Locs) : Prop where
  fn : Callable P f
  run : ∀ (g : Gh) (w : World) (cargs : Array Value), MemR g L w → All2 (VR1 g L w) cargs.toList args →
    Calls P f cargs w fun e w' => ∃ i v g', G i ∧ e = .returned v ∧ MemR g' (L' i) w' ∧ VR g' (L' i) w' v (res i) ∧ Step (keys L) g L w g' (L' i) w'
theorem AX.mono {P : Program} {f : FuncId} {args : List AVal} {L : Locs} {ι : Type} {G G' : ι → Prop} {res : ι → AVal} {L' : ι → Locs} (h : AX P f args L G res L') (hg : ∀ i, G i → G' i) : AX P f args L G' res L' :=
  ⟨h.fn, fun g w cargs m ha => (h.run g w cargs m ha).mono (by
    rintro e w' ⟨i, v, g', h0, h1, h2, h3, h4⟩
    exact ⟨i, v, g', hg i h0, h1, h2, h3, h4⟩)⟩

/-! ### How a body must end -/
def RetXS {ι : Type} (K : List Nat) (G : ι → Prop) (T : ι → Tmps) (L' : ι → Locs) (s : St) : Prop := ∃ i, G i ∧ ∃ r, LeS K r s ⟨T i, L' i⟩
def RetXQ {ι : Type} (K : List Nat) (G : ι → Prop) (T : ι → Tmps) (L' : ι → Locs) : Exit → St → Prop
  | .ret, s => RetXS K G T L' s
  | _, _ => False
section body
variable {P : Program} {N : Nat} {f : FuncId} {fn : Func} {c : Code} {args : List AVal} {L : Locs} {ι : Type} {G : ι → Prop} {res : ι → AVal} {L' Lf : ι → Locs} {T : ι → Tmps}
theorem AX_of (hf : P.funcs[f]? = some fn) (hb : fn.body = some c) (hn : (fn.name == "runtime.NumGoroutine") = false) (hN : fn.ntmps = N) (hA : Nat.ble args.length N = true)
    (hr : ∀ (i : ι) (g : Gh) (a : Act) (w : World), Rep N g ⟨T i, L' i⟩ a w → ∃ v, (results fn a.tmps).run P w = .ok v w ∧ VR g (L' i) w v (res i))
    (h : AW P N (keys L) c (RetXS (keys L) G T L') (RetXQ (keys L) G T L') ⟨args0 args 0, L⟩) : AX P f args L G res L' := by
  refine ⟨⟨fn, c, hf, hb, hn⟩, fun g w cargs m ha => ?_⟩
  subst hN
  have R := entry_rep m ha (Nat.le_of_ble_eq_true hA)
  refine calls_of_wp hf hb (Go.wp_mono (h g _ w R) ?_)
  rintro e a1 w1 ⟨g1, s1, R1, hs, hR⟩
  have fin : RetXS (keys L) G T L' s1 → a1.defers = [] ∧ ∃ v, (results fn a1.tmps).run P w1 = .ok v w1 ∧ ∃ i v' g', G i ∧ Ending.returned v = .returned v' ∧ MemR g' (L' i) w1 ∧ VR g' (L' i) w1 v' (res i) ∧ Step (keys L) g L w g' (L' i) w1 := by
    rintro ⟨i, hG, r, hle⟩
    have R2 := R1.le hle
    obtain ⟨v, h1, h2⟩ := hr i _ a1 w1 R2
    exact ⟨R1.defers, v, h1, i, v, _, hG, rfl, R2.mem, h2, hs.trans m R1.mem (Step.unren hle.l hle.k)⟩
  cases e with
  | normal => exact fin hR
  | ret => exact fin hR
  | exit id => exact hR
  | goto l => exact hR
  | panic ch => exact hR.elim
  | outgrown => exact hR.elim
theorem AX_ofB (hf : P.funcs[f]? = some fn) (hb : fn.body = some c) (hn : (fn.name == "runtime.NumGoroutine") = false) (hN : fn.ntmps = N) (hA : Nat.ble args.length N = true)
    (hren : ∀ i, (res i).ren (rn []) = res i) (hle : ∀ i, LeS (keys L) (rn []) ⟨T i, Lf i⟩ ⟨[], L' i⟩)
    (hr : ∀ (i : ι) (g : Gh) (a : Act) (w : World), Rep N g ⟨T i, Lf i⟩ a w → ∃ v, (results fn a.tmps).run P w = .ok v w ∧ VR g (Lf i) w v (res i))
    (h : AW P N (keys L) c (RetXS (keys L) G T Lf) (RetXQ (keys L) G T Lf) ⟨args0 args 0, L⟩) : AX P f args L G res L' := by
  have h0 := AX_of (L' := Lf) hf hb hn hN hA hr h
  refine ⟨h0.fn, fun g w cargs m ha => (h0.run g w cargs m ha).mono ?_⟩
  rintro e w' ⟨i, v, g1, hG, rfl, m1, hv, hs⟩
  exact ⟨i, v, g1.ren (rn []), hG, rfl, m1.unren (hle i).l (hle i).inj, VR.unren (hle i).l (by rw [hren]; exact hv), hs.trans m m1 (Step.unren (hle i).l (hle i).k)⟩
theorem AX_body1 {r : Nat} {x : ι → AVal} (hf : P.funcs[f]? = some fn) (hb : fn.body = some c) (hn : (fn.name == "runtime.NumGoroutine") = false) (hN : fn.ntmps = N) (hA : Nat.ble args.length N = true) (hr : fn.results = #[.tmp r])
    (h : AW P N (keys L) c (RetXS (keys L) G (fun i => [(r, x i)]) L') (RetXQ (keys L) G (fun i => [(r, x i)]) L') ⟨args0 args 0, L⟩) : AX P f args L G x L' :=
  AX_of hf hb hn hN hA (fun i g a w R => ⟨_, results_tmp hr _ _ _, R.tmp r (x i) lk_cons_self⟩) h
theorem AX_bodyC {ty : TypeId} {r n k : Nat} {cs : ι → List Cell} (hf : P.funcs[f]? = some fn) (hb : fn.body = some c) (hn : (fn.name == "runtime.NumGoroutine") = false) (hN : fn.ntmps = N) (hA : Nat.ble args.length N = true) (hr : fn.results = #[.cell r ty])
    (ht : ∀ i, lk (T i) r = some (.one (.ptr k 0))) (hl : ∀ i, lkl (Lf i) k = some (.box (cs i))) (hk : kindT P ty = some (some n)) (hcn : ∀ i, (cs i).length = n) (hren : ∀ i, (AVal.agg (cs i)).ren (rn []) = .agg (cs i)) (hle : ∀ i, LeS (keys L) (rn []) ⟨T i, Lf i⟩ ⟨[], L' i⟩)
    (h : AW P N (keys L) c (RetXS (keys L) G T Lf) (RetXQ (keys L) G T Lf) ⟨args0 args 0, L⟩) : AX P f args L G (fun i => .agg (cs i)) L' :=
  AX_ofB hf hb hn hN hA hren hle (fun i g a w R => by
    obtain ⟨ad, v, h1, h2, h3⟩ := run_results_c R (ht i) (hl i) hk (hcn i)
    refine ⟨v, ?_, h3⟩
    simp only [Array.getD_eq_getD_getElem?] at h1
    simp [results, hr, h1, h2]) h
end body

/-! ### A region in the order of its text -/
def AN (P : Program) (N : Nat) (ops : Array Oper) (Kn : St → Prop) (l : List Oper) (s : St) : Prop :=
  ∀ (K : List Nat) (Q : Exit → St → Prop) (g0 : Gh) (l0 : Locs) (w0 : World), MemR g0 l0 w0 → ∀ (g : Gh) (a : Act) (w : World), Rep N g s a w → Step K g0 l0 w0 g s.l w → wpList P ops (Ends N K g0 l0 w0 (NormR Kn Q)) l a w
section walk
variable {P : Program} {N : Nat} {ops : Array Oper} {Kn : St → Prop} {r : List Oper} {s s' : St} {c : Cert}
theorem AW_regionN {K : List Nat} {Q : Exit → St → Prop} {id : Nat} {l : List Oper} (h : AN P N l.toArray Kn l s) : AW P N K (.region id l.toArray false) Kn Q s := fun g a w r =>
  wp_region_lit (h K Q g s.l w r.mem g a w r (Step.refl ..))
theorem AN_nil (h : Kn s) : AN P N ops Kn [] s := fun K Q g0 l0 w0 m0 g a w r hs => ⟨g, s, r, hs, h⟩
theorem AN_cons {o : Oper} (h1 : OpG P N ops o c) (h2 : c.pre s) (h3 : AN P N ops Kn r (c.upd s)) : AN P N ops Kn (o :: r) s := fun K Q g0 l0 w0 m0 g a w R hs => by
  have h4 := h1 K g s a w h2 R
  unfold wpList
  split
  · rename_i hw
    rw [if_pos hw] at h4
    exact .inl (Oper.wp_weak (fun a' w' ⟨g', r', hs'⟩ => h3 K Q g0 l0 w0 m0 g' a' w' r' (hs.trans m0 R.mem hs')) h4)
  · rename_i hw
    rw [if_neg hw] at h4
    obtain ⟨g', r', hs'⟩ := h4
    exact h3 K Q g0 l0 w0 m0 g' _ w r' (hs.trans m0 R.mem hs')
theorem AN_p {dst : Option Nat} {op : Op} {ty : TypeId} {pos : String} {after : Array Edge} (h : Stp P N ⟨dst, op, ty, pos, after, none⟩ s s' c) (next : AN P N ops Kn r s') : AN P N ops Kn (⟨dst, op, ty, pos, after, none⟩ :: r) s :=
  AN_cons (OpG.plain rfl h.1) h.2.1 (by rw [h.2.2]; exact next)
theorem AN_g {dst : Option Nat} {op : Op} {ty : TypeId} {pos : String} {after : Array Edge} {j t : Nat} {b : Bool} (hj : gslot ops j = some t) (hb : lk s.t t = some (.one (.c (.bool b)))) (h : Stp P N ⟨dst, op, ty, pos, after, some (j, b)⟩ s s' c)
    (next : AN P N ops Kn r s') : AN P N ops Kn (⟨dst, op, ty, pos, after, some (j, b)⟩ :: r) s :=
  AN_cons (c := { c with rt := (t, .one (.c (.bool b))) :: c.rt }) (OpG.on rfl hj h.1) ⟨fun p hp => by
    rcases List.mem_cons.1 hp with rfl | hp
    · exact hb
    · exact h.2.1.1 p hp, h.2.1.2⟩ (by
    show AN P N ops Kn r (c.upd s)
    rw [h.2.2]; exact next)
theorem AN_o {d : Nat} {op : Op} {ty : TypeId} {pos : String} {after : Array Edge} {j t : Nat} {b b' : Bool} (hN : Nat.blt d N = true) (hj : gslot ops j = some t) (hb : lk s.t t = some (.one (.c (.bool b')))) (hne : (b' == b) = false)
    (next : AN P N ops Kn r ⟨(d, .tup []) :: s.t, s.l⟩) : AN P N ops Kn (⟨some d, op, ty, pos, after, some (j, b)⟩ :: r) s :=
  AN_cons (OpG.off rfl hj (by simpa using hne) rfl (blt_lt hN)) ⟨fun p hp => by simp at hp; subst hp; exact hb, by simp, by simp⟩ next
theorem AN_b {d : Nat} {op : Op} {ty : TypeId} {pos : String} {after : Array Edge} {e : Bool} {rt : List (Nat × AVal)} {rl : List (Nat × Blk)} (h : Stp P N ⟨some d, op, ty, pos, after, none⟩ s ⟨(d, .one (.c (.bool e))) :: s.t, s.l⟩ ⟨rt, rl, [(d, .one (.c (.bool e)))], [], []⟩)
    (next : ∀ b, e = b → AN P N ops Kn r ⟨(d, .one (.c (.bool b))) :: s.t, s.l⟩) : AN P N ops Kn (⟨some d, op, ty, pos, after, none⟩ :: r) s :=
  AN_p h (next e rfl)
theorem AN_gb {d : Nat} {op : Op} {ty : TypeId} {pos : String} {after : Array Edge} {j t : Nat} {g : Bool} {e : Bool} {rt : List (Nat × AVal)} {rl : List (Nat × Blk)} (hj : gslot ops j = some t) (hb : lk s.t t = some (.one (.c (.bool g)))) (h : Stp P N ⟨some d, op, ty, pos, after, some (j, g)⟩ s ⟨(d, .one (.c (.bool e))) :: s.t, s.l⟩ ⟨rt, rl, [(d, .one (.c (.bool e)))], [], []⟩)
    (next : ∀ b, e = b → AN P N ops Kn r ⟨(d, .one (.c (.bool b))) :: s.t, s.l⟩) : AN P N ops Kn (⟨some d, op, ty, pos, after, some (j, g)⟩ :: r) s :=
  AN_g hj hb h (next e rfl)
/-- A call whose contract leaves open what it returns. -/
theorem AN_x {ι : Type} {G : ι → Prop} {res : ι → AVal} {L' : ι → Locs} {d : Nat} {fo : Operand} {f : FuncId} {ars : Array Operand} {ats : Array TypeId} {xs : List AVal} {L : Locs} {ty : TypeId} {pos : String} {after : Array Edge} (hN : Nat.blt d N = true)
    (hev : evo s.t fo = some (.one (.clo f []))) (hxs : evl s.t ars.toList = some xs) (hac : AX P f xs L G res L') (hfl : flats xs = true) (hLs : okL L = true) (hsc : ∀ i, closedIn (keys (L' i)) (L' i).ids = true) (hsr : ∀ i, closedIn (keys (L' i)) (res i).ids = true)
    (hsub : sub s.l L) (hnew : ∀ i, newOk s (newOf L (L' i)) = true) (next : ∀ i, G i → AN P N ops Kn r ⟨(d, res i) :: s.t, L' i ++ (goneL L ++ s.l)⟩) :
    AN P N ops Kn (⟨some d, .call { callee := .value fo, args := ars, argTypes := ats }, ty, pos, after, none⟩ :: r) s := fun K Q g0 l0 w0 m0 g a w R hst => by
  have hfe : a.eval fo = .func (.func f) #[] #[] := (eval_ok R (evs_of hev) (rdo_of hev) : VR g s.l w (a.eval fo) (.one (.clo f []))) fun k hk => by cases hk
  have hargs : All2 (VR1 g s.l w) ((ars.map a.eval) ++ #[]).toList xs := by
    rw [Array.append_empty, Array.toList_map]
    exact ((evl_ok hxs).2 R (evl_ok (N := N) hxs).1).vr1 hfl
  unfold wpList
  rw [if_pos (by simp [Region.wanted])]
  refine .inl ?_
  unfold Oper.wp
  rw [run_enter rfl hac.fn hfe, Oper.upon_enter]
  have mL := R.mem.sub hsub
  refine (hac.run g w _ mL (hargs.mono fun v x _ hr => VR1.step (fun _ _ => rfl) (fun _ h => h) (Nat.le_refl _) (fun k _ => okK.sub hsub k) hr)).mono ?_
  rintro e w' ⟨i, v, g', hG, rfl, m', hv, hs⟩
  have p3 := newOk_of (hnew i)
  have hnw : ∀ k ∈ newOf L (L' i), lk s.l k = none ∧ k ∉ s.l.ids := fun k hk => ⟨(p3 k hk).1, fun h => (p3 k hk).2 (List.mem_append_right _ h)⟩
  obtain ⟨c1, c2, c3, c4, c5⟩ := call_mem R.mem hsub m' hs (hsc i) hLs hnw K
  have hmm : ∀ b, g.I b → (g.mix g' (keys (L' i) ++ keys L)).I b := fun b hb => hs.imm b hb
  refine next i hG K Q g0 l0 w0 m0 _ _ w' ?_ (hst.trans m0 R.mem c2)
  exact R.next (blt_lt hN) c3 hmm hs.size (fun k hk => c4 k fun h => (p3 k h).2 hk) (VR.step (g := g') (l := L' i) (fun _ _ => rfl) (fun b hb => hb) (Nat.le_refl _) (fun k hk => c5 k (closedIn_get (hsr i) hk)) hv) c1
end walk
end Go.Proofs.Ytfdpigafekohgaa

/- Messages that are drawn (printed by walk.py) -/
namespace Go.Proofs.Ytfdpigafekohgaa
open Go.RowKit
set_option linter.unusedVariables false
set_option linter.unusedSimpArgs false
set_option maxRecDepth 100000

set_option maxHeartbeats 4000000 in
theorem fullS_c (f : Int) (h0 : 0 ≤ f) (h1 : f < 8) : AC Try.prog 154 [.one (.c (.int .i64 f))] [] (.one (.c (.int .i64 (topOf f - 1)))) [] := by
  refine AC_body1 Try.func154 rfl rfl Try.ntmps154 rfl Try.results154 ?_
  refine AW_seq ?_
  refine AW_region ?_
  refine AL_p (x_assign rfl rfl) ?_
  refine AL_nil ?_
  refine AW_seq ?_
  refine AW_region ?_
  refine AL_p (x_move rfl rfl) ?_
  refine AL_p (x_call0 rfl rfl rfl (fbS_c _) rfl rfl) ?_
  refine AL_p (x_quo rfl rfl rfl (by decide) (bitsOf_quo f)) ?_
  refine AL_p (x_call0 rfl rfl rfl (pow_c _ (by have := bitsOf_le f; omega) (by have := bitsOf_le f; omega)) rfl rfl) ?_
  refine AL_p (x_sub rfl rfl rfl (r := topOf f - 1) (by have := topOf_bound f; rw [topOf_pow h0 h1]; exact IntWalk.i64_in _ (by omega))) ?_
  refine AL_p (x_assign rfl rfl) ?_
  refine AL_nil ?_
  refine AW_ret ?_
  exact ⟨rn [], ⟨⟨⟨_, rfl, vle_int (rfl)⟩, trivial⟩, trivial, trivial, rfl⟩⟩

set_option maxHeartbeats 4000000 in
theorem head_x (b : List Int) (c : Cur) (hb : b.length ≤ 1048576) : AX Try.prog 122 [.one (.ptr 200 0)] [(200, some (curB b c))] (ι := List Int × Cur) (fun i => i.1.length = 8) (fun i => .agg [.own 300]) (fun i => [(200, some (curB b i.2)), (300, some (.arr 3 (intE .i64) i.1 true))]) := by
  refine AX_bodyC (n := 1) (k := 9) (cs := fun (i : List Int × Cur) => [.own 300]) (T := fun (_ : List Int × Cur) => [(2, .one (.ptr 9 0))]) (Lf := fun (i : List Int × Cur) => ((9, some (.box [.own 300])) :: [(200, some (curB b i.2)), (300, some (.arr 3 (intE .i64) i.1 true))])) (L' := fun (i : List Int × Cur) => [(200, some (curB b i.2)), (300, some (.arr 3 (intE .i64) i.1 true))]) Try.func122 rfl rfl Try.ntmps122 rfl Try.results122 (fun _ => rfl) (fun _ => rfl) (by kernel_rfl) (fun _ => rfl) (fun _ => rfl) (fun (_ : List Int × Cur) => ⟨trivial, (by repeat (first | exact trivial | refine ⟨⟨_, rfl, BLe.rf⟩, ?_⟩)), (by repeat (first | exact trivial | refine ⟨⟨rfl, by first | (left; intro h; cases h) | (right; rfl), by first | exact (fun _ h => ⟨_, h⟩) | exact (fun _ _ => ⟨_, rfl⟩)⟩, ?_⟩)), rfl⟩) ?_
  refine AW_seq ?_
  refine AW_regionN ?_
  refine AN_p (x_alloc (z := .agg #[.slice none 0 0]) 100 rfl (by kernel_rfl) rfl rfl rfl rfl) ?_
  refine AN_nil ?_
  refine AW_seq ?_
  refine AW_regionN ?_
  refine AN_p (x_move rfl rfl) ?_
  have d6 := dBelow_lt b c (n := 4) (by decide)
  refine AN_p (x_call (ks := []) (L := [(200, some _)]) (L' := [(200, some _)]) rfl rfl rfl (below_c b c hb 4) rfl AllV.rf (caught_of rfl) rfl rfl rfl ⟨rfl, trivial⟩ rfl) ?_
  refine AN_p (x_add rfl rfl rfl (IntWalk.i64_in _ (by omega))) ?_
  refine AN_p (x_move rfl rfl) ?_
  have d9 := dBelow_lt b (dBelow b c 4).2 (n := 5) (by decide)
  refine AN_p (x_call (ks := []) (L := [(200, some _)]) (L' := [(200, some _)]) rfl rfl rfl (below_c b (dBelow b c 4).2 hb 5) rfl AllV.rf (caught_of rfl) rfl rfl rfl ⟨rfl, trivial⟩ rfl) ?_
  refine AN_p (x_move rfl rfl) ?_
  have d11 := dBelow_lt b (dBelow b (dBelow b c 4).2 5).2 (n := 5) (by decide)
  refine AN_p (x_call (ks := []) (L := [(200, some _)]) (L' := [(200, some _)]) rfl rfl rfl (below_c b (dBelow b (dBelow b c 4).2 5).2 hb 5) rfl AllV.rf (caught_of rfl) rfl rfl rfl ⟨rfl, trivial⟩ rfl) ?_
  refine AN_p (x_move rfl rfl) ?_
  have d13 := dBelow_lt b (dBelow b (dBelow b (dBelow b c 4).2 5).2 5).2 (n := 3) (by decide)
  refine AN_p (x_call (ks := []) (L := [(200, some _)]) (L' := [(200, some _)]) rfl rfl rfl (below_c b (dBelow b (dBelow b (dBelow b c 4).2 5).2 5).2 hb 3) rfl AllV.rf (caught_of rfl) rfl rfl rfl ⟨rfl, trivial⟩ rfl) ?_
  refine AN_p (x_move rfl rfl) ?_
  have d15 := dBelow_lt b (dBelow b (dBelow b (dBelow b (dBelow b c 4).2 5).2 5).2 3).2 (n := 4) (by decide)
  refine AN_p (x_call (ks := []) (L := [(200, some _)]) (L' := [(200, some _)]) rfl rfl rfl (below_c b (dBelow b (dBelow b (dBelow b (dBelow b c 4).2 5).2 5).2 3).2 hb 4) rfl AllV.rf (caught_of rfl) rfl rfl rfl ⟨rfl, trivial⟩ rfl) ?_
  refine AN_p (x_move rfl rfl) ?_
  have d17 := dBelow_lt b (dBelow b (dBelow b (dBelow b (dBelow b (dBelow b c 4).2 5).2 5).2 3).2 4).2 (n := 4) (by decide)
  refine AN_p (x_call (ks := []) (L := [(200, some _)]) (L' := [(200, some _)]) rfl rfl rfl (below_c b (dBelow b (dBelow b (dBelow b (dBelow b (dBelow b c 4).2 5).2 5).2 3).2 4).2 hb 4) rfl AllV.rf (caught_of rfl) rfl rfl rfl ⟨rfl, trivial⟩ rfl) ?_
  refine AN_p (y_bslice (E := 3) (e := (intE .i64)) [.tmp 7, .tmp 9, .tmp 11, .const (.int .i64 (2048)), .tmp 13, .tmp 15, .tmp 17, .const (.int .i64 (17))] ([1 + (dBelow b c 4).1, (dBelow b (dBelow b c 4).2 5).1, (dBelow b (dBelow b (dBelow b c 4).2 5).2 5).1, 2048, (dBelow b (dBelow b (dBelow b (dBelow b c 4).2 5).2 5).2 3).1, (dBelow b (dBelow b (dBelow b (dBelow b (dBelow b c 4).2 5).2 5).2 3).2 4).1, (dBelow b (dBelow b (dBelow b (dBelow b (dBelow b (dBelow b c 4).2 5).2 5).2 3).2 4).2 4).1, 17]) 101 rfl rfl rfl rfl rfl rfl rfl rfl FitL.rf rfl rfl rfl rfl rfl rfl (by kernel_rfl)) ?_
  refine AN_p (x_build (zs := [.slice none 0 0]) (places := [(0, 1)]) rfl (by kernel_rfl) rfl rfl rfl rfl rfl) ?_
  refine AN_p (x_alloc (z := .agg #[.slice none 0 0]) 102 rfl (by kernel_rfl) rfl rfl rfl rfl) ?_
  refine AN_p (x_store (n := 1) rfl rfl rfl rfl (by kernel_rfl) rfl rfl rfl) ?_
  refine AN_nil ?_
  refine AW_seq ?_
  refine AW_seq ?_
  refine AW_regionN ?_
  refine AN_p (x_move rfl rfl) ?_
  have d21 := dBelow_lt b (dBelow b (dBelow b (dBelow b (dBelow b (dBelow b (dBelow b c 4).2 5).2 5).2 3).2 4).2 4).2 (n := 4) (by decide)
  refine AN_p (x_call (ks := []) (L := [(200, some _)]) (L' := [(200, some _)]) rfl rfl rfl (below_c b (dBelow b (dBelow b (dBelow b (dBelow b (dBelow b (dBelow b c 4).2 5).2 5).2 3).2 4).2 4).2 hb 4) rfl AllV.rf (caught_of rfl) rfl rfl rfl ⟨rfl, trivial⟩ rfl) ?_
  refine AN_b (x_eql rfl rfl rfl) (fun b22 h22 => ?_)
  refine AN_nil ?_
  cases b22
  · try simp only [tdy] at h22
    refine AW_condF rfl ?_
    refine AW_skip ?_
    refine AW_seq ?_
    refine AW_regionN ?_
    refine AN_p (x_loadN (n := 1) rfl rfl rfl (by kernel_rfl) rfl rfl) ?_
    refine AN_p (x_store (n := 1) rfl rfl rfl rfl (by kernel_rfl) rfl rfl rfl) ?_
    refine AN_nil ?_
    refine AW_ret ?_
    refine ⟨⟨_, _⟩, ?_, rn [(9, 100), (300, 101)], by exact ⟨⟨⟨_, rfl, VLe.rf⟩, trivial⟩, ⟨⟨_, rfl, by first | exact BLe.rf | exact BLe.box (by repeat (first | exact trivial | refine ⟨by first | exact CLe.rf | exact CLe.nil, ?_⟩))⟩, ⟨_, rfl, BLe.rf⟩, ⟨_, rfl, BLe.rf⟩, trivial⟩, by repeat (first | exact trivial | refine ⟨⟨rfl, by first | (left; intro h; cases h) | (right; rfl), by first | exact (fun _ h => ⟨_, h⟩) | exact (fun _ _ => ⟨_, rfl⟩)⟩, ?_⟩), rfl⟩⟩
    simp
  try simp only [tdy] at h22
  refine AW_condT rfl ?_
  refine AW_seq ?_
  refine AW_regionN ?_
  refine AN_p (x_move rfl rfl) ?_
  have d24 := dBelow_lt b (dBelow b (dBelow b (dBelow b (dBelow b (dBelow b (dBelow b (dBelow b c 4).2 5).2 5).2 3).2 4).2 4).2 4).2 (n := 8) (by decide)
  refine AN_p (x_call (ks := []) (L := [(200, some _)]) (L' := [(200, some _)]) rfl rfl rfl (below_c b (dBelow b (dBelow b (dBelow b (dBelow b (dBelow b (dBelow b (dBelow b c 4).2 5).2 5).2 3).2 4).2 4).2 4).2 hb 8) rfl AllV.rf (caught_of rfl) rfl rfl rfl ⟨rfl, trivial⟩ rfl) ?_
  refine AN_p (x_assign rfl rfl) ?_
  refine AN_nil ?_
  refine AW_draw rfl ?_
  refine AL_p (x_field (off := 0) (o' := 0) rfl rfl rfl (by kernel_rfl) rfl) ?_
  refine AL_p (x_load1 rfl rfl rfl (by kernel_rfl) rfl) ?_
  refine AL_p (x_move rfl rfl) ?_
  refine AL_p (x_move rfl rfl) ?_
  refine AL_p (x_call0 rfl rfl rfl (fbS_c _) rfl rfl) ?_
  refine AL_p (x_quo rfl rfl rfl (by decide) (bitsOf_quo _)) ?_
  refine AL_p (x_call0 rfl rfl rfl (pow_c (bitsOf (dBelow b (dBelow b (dBelow b (dBelow b (dBelow b (dBelow b (dBelow b (dBelow b c 4).2 5).2 5).2 3).2 4).2 4).2 4).2 8).1 / 8) (by have := bitsOf_le (dBelow b (dBelow b (dBelow b (dBelow b (dBelow b (dBelow b (dBelow b (dBelow b c 4).2 5).2 5).2 3).2 4).2 4).2 4).2 8).1; omega) (by have := bitsOf_le (dBelow b (dBelow b (dBelow b (dBelow b (dBelow b (dBelow b (dBelow b (dBelow b c 4).2 5).2 5).2 3).2 4).2 4).2 4).2 8).1; omega)) rfl rfl) ?_
  refine AL_p (x_sub rfl rfl rfl (r := w64 _) rfl) ?_
  refine AL_p (x_move rfl rfl) ?_
  have d34 := dBelow_lt b (dBelow b (dBelow b (dBelow b (dBelow b (dBelow b (dBelow b (dBelow b (dBelow b c 4).2 5).2 5).2 3).2 4).2 4).2 4).2 8).2 (n := 2) (by decide)
  refine AL_p (x_call (ks := []) (L := [(200, some _)]) (L' := [(200, some _)]) rfl rfl rfl (below_c b (dBelow b (dBelow b (dBelow b (dBelow b (dBelow b (dBelow b (dBelow b (dBelow b c 4).2 5).2 5).2 3).2 4).2 4).2 4).2 8).2 hb 2) rfl AllV.rf (caught_of rfl) rfl rfl rfl ⟨rfl, trivial⟩ rfl) ?_
  refine AL_p (x_sub rfl rfl rfl (r := w64 _) rfl) ?_
  refine AL_p (x_oindex (n := 1) rfl rfl rfl rfl (by kernel_rfl) rfl (k := (dBelow b (dBelow b (dBelow b (dBelow b (dBelow b (dBelow b (dBelow b (dBelow b c 4).2 5).2 5).2 3).2 4).2 4).2 4).2 8).1.toNat) (by omega) (by first | omega | (simp only [List.length_set]; omega) | (simp; omega))) ?_
  refine AL_p (x_ostore (_) rfl rfl rfl rfl (by kernel_rfl) rfl rfl rfl rfl FitL.rf rfl rfl (by first | omega | (rw [filledTo_len (by omega)]; omega) | (simp; omega))) ?_
  refine AL_nild (by kernel_rfl) ?_
  refine AW_seq ?_
  refine AW_regionN ?_
  refine AN_p (x_loadN (n := 1) rfl rfl rfl (by kernel_rfl) rfl rfl) ?_
  refine AN_p (x_store (n := 1) rfl rfl rfl rfl (by kernel_rfl) rfl rfl rfl) ?_
  refine AN_nil ?_
  refine AW_ret ?_
  refine ⟨⟨_, _⟩, ?_, rn [(9, 100), (300, 101)], by exact ⟨⟨⟨_, rfl, VLe.rf⟩, trivial⟩, ⟨⟨_, rfl, by first | exact BLe.rf | exact BLe.box (by repeat (first | exact trivial | refine ⟨by first | exact CLe.rf | exact CLe.nil, ?_⟩))⟩, ⟨_, rfl, BLe.rf⟩, ⟨_, rfl, BLe.rf⟩, trivial⟩, by repeat (first | exact trivial | refine ⟨⟨rfl, by first | (left; intro h; cases h) | (right; rfl), by first | exact (fun _ h => ⟨_, h⟩) | exact (fun _ _ => ⟨_, rfl⟩)⟩, ?_⟩), rfl⟩⟩
  simp

set_option maxHeartbeats 4000000 in
theorem anyHead_x (b : List Int) (c : Cur) (hb : b.length ≤ 1048576) : AX Try.prog 132 [.one (.ptr 200 0)] [(200, some (curB b c))] (ι := List Int × Cur) (fun i => i.1.length ≤ 9) (fun i => .agg [.sl (intE .i64) i.1]) (fun i => [(200, some (curB b i.2))]) := by
  refine AX_bodyC (n := 1) (k := 9) (cs := fun (i : List Int × Cur) => [.sl (intE .i64) i.1]) (T := fun (_ : List Int × Cur) => [(2, .one (.ptr 9 0))]) (Lf := fun (i : List Int × Cur) => ((9, some (.box [.sl (intE .i64) i.1])) :: [(200, some (curB b i.2))])) (L' := fun (i : List Int × Cur) => [(200, some (curB b i.2))]) Try.func132 rfl rfl Try.ntmps132 rfl Try.results132 (fun _ => rfl) (fun _ => rfl) (by kernel_rfl) (fun _ => rfl) (fun _ => rfl) (fun (_ : List Int × Cur) => ⟨trivial, (by repeat (first | exact trivial | refine ⟨⟨_, rfl, BLe.rf⟩, ?_⟩)), (by repeat (first | exact trivial | refine ⟨⟨rfl, by first | (left; intro h; cases h) | (right; rfl), by first | exact (fun _ h => ⟨_, h⟩) | exact (fun _ _ => ⟨_, rfl⟩)⟩, ?_⟩)), rfl⟩) ?_
  refine AW_seq ?_
  refine AW_regionN ?_
  refine AN_p (x_alloc (z := .agg #[.slice none 0 0]) 100 rfl (by kernel_rfl) rfl rfl rfl rfl) ?_
  refine AN_nil ?_
  refine AW_seq ?_
  refine AW_regionN ?_
  refine AN_p (x_move rfl rfl) ?_
  refine AN_x (L := [(200, some (curB b c))]) rfl rfl rfl (head_x b c hb) rfl rfl (fun _ => rfl) (fun _ => rfl) ⟨rfl, trivial⟩ (fun _ => rfl) ?_
  rintro ⟨x7, c7⟩ g7
  dsimp only at g7 ⊢
  refine AN_p (x_alloc (z := .agg #[.slice none 0 0]) 101 rfl (by kernel_rfl) rfl rfl rfl rfl) ?_
  refine AN_p (x_store (n := 1) rfl rfl rfl rfl (by kernel_rfl) rfl rfl rfl) ?_
  refine AN_nil ?_
  refine AW_seq ?_
  refine AW_regionN ?_
  refine AN_p (x_move rfl rfl) ?_
  have d9 := dBelow_lt b c7 (n := 12) (by decide)
  refine AN_p (x_call (ks := []) (L := [(200, some _)]) (L' := [(200, some _)]) rfl rfl rfl (below_c b c7 hb 12) rfl AllV.rf (caught_of rfl) rfl rfl rfl ⟨rfl, trivial⟩ rfl) ?_
  refine AN_p (x_assign rfl rfl) ?_
  refine AN_nil ?_
  refine AW_seq ?_
  refine AW_seq ?_
  refine AW_regionN ?_
  refine AN_p (x_move rfl rfl) ?_
  refine AN_b (x_eql rfl rfl rfl) (fun b11 h11 => ?_)
  refine AN_nil ?_
  cases b11
  rotate_left
  · try simp only [tdy] at h11
    refine AW_condT rfl ?_
    refine AW_draw rfl ?_
    refine AL_p (x_field (off := 0) (o' := 0) rfl rfl rfl (by kernel_rfl) rfl) ?_
    refine AL_p (x_load1 rfl rfl rfl (by kernel_rfl) rfl) ?_
    refine AL_p (x_move rfl rfl) ?_
    have d15 := dBelow_lt b (dBelow b c7 12).2 (n := 8) (by decide)
    refine AL_p (x_call (ks := []) (L := [(200, some _)]) (L' := [(200, some _)]) rfl rfl rfl (below_c b (dBelow b c7 12).2 hb 8) rfl AllV.rf (caught_of rfl) rfl rfl rfl ⟨rfl, trivial⟩ rfl) ?_
    refine AL_p (x_move rfl rfl) ?_
    refine AL_p (x_call (ks := []) (L := [(200, some _)]) (L' := [(200, some _)]) rfl rfl rfl (raw_c b (dBelow b (dBelow b c7 12).2 8).2 hb) rfl AllV.rf (caught_of rfl) rfl rfl rfl ⟨rfl, trivial⟩ rfl) ?_
    refine AL_p (x_oindex (n := 1) rfl rfl rfl rfl (by kernel_rfl) rfl (k := (dBelow b (dBelow b c7 12).2 8).1.toNat) (by omega) (by first | omega | (simp only [List.length_set]; omega) | (simp; omega))) ?_
    refine AL_p (x_ostore (_) rfl rfl rfl rfl (by kernel_rfl) rfl rfl rfl rfl FitL.rf rfl rfl (by first | omega | (rw [filledTo_len (by omega)]; omega) | (simp; omega))) ?_
    refine AL_nild (by kernel_rfl) ?_
    refine AW_seq ?_
    refine AW_seq ?_
    refine AW_regionN ?_
    refine AN_p (x_move rfl rfl) ?_
    refine AN_b (x_eql rfl rfl rfl) (fun b20 h20 => ?_)
    refine AN_nil ?_
    cases b20
    rotate_left
    · exfalso; simp at h20; omega
    try simp only [tdy] at h20
    refine AW_condF rfl ?_
    refine AW_skip ?_
    refine AW_seq ?_
    refine AW_seq ?_
    refine AW_regionN ?_
    refine AN_p (x_move rfl rfl) ?_
    refine AN_b (x_eql rfl rfl rfl) (fun b28 h28 => ?_)
    refine AN_nil ?_
    cases b28
    rotate_left
    · exfalso; simp at h28; omega
    try simp only [tdy] at h28
    refine AW_condF rfl ?_
    refine AW_skip ?_
    refine AW_seq ?_
    refine AW_seq ?_
    refine AW_regionN ?_
    refine AN_p (x_move rfl rfl) ?_
    refine AN_b (x_eql rfl rfl rfl) (fun b35 h35 => ?_)
    refine AN_nil ?_
    cases b35
    rotate_left
    · exfalso; simp at h35; omega
    try simp only [tdy] at h35
    refine AW_condF rfl ?_
    refine AW_skip ?_
    refine AW_seq ?_
    refine AW_regionN ?_
    refine AN_p (x_loadN (n := 1) rfl rfl rfl (by kernel_rfl) rfl rfl) ?_
    refine AN_p (x_store (n := 1) rfl rfl rfl rfl (by kernel_rfl) rfl rfl rfl) ?_
    refine AN_nil ?_
    refine AW_shutB 300 100 0 rfl rfl rfl rfl ?_
    refine AW_ret ?_
    refine ⟨⟨_, _⟩, ?_, rn [(9, 100)], by exact ⟨⟨⟨_, rfl, VLe.rf⟩, trivial⟩, ⟨⟨_, rfl, by first | exact BLe.rf | exact BLe.box (by repeat (first | exact trivial | refine ⟨by first | exact CLe.rf | exact CLe.nil, ?_⟩))⟩, ⟨_, rfl, BLe.rf⟩, trivial⟩, by repeat (first | exact trivial | refine ⟨⟨rfl, by first | (left; intro h; cases h) | (right; rfl), by first | exact (fun _ h => ⟨_, h⟩) | exact (fun _ _ => ⟨_, rfl⟩)⟩, ?_⟩), rfl⟩⟩
    dsimp only; first | (simp; omega) | omega
  try simp only [tdy] at h11
  refine AW_condF rfl ?_
  refine AW_skip ?_
  refine AW_seq ?_
  refine AW_seq ?_
  refine AW_regionN ?_
  refine AN_p (x_move rfl rfl) ?_
  refine AN_b (x_eql rfl rfl rfl) (fun b20 h20 => ?_)
  refine AN_nil ?_
  cases b20
  rotate_left
  · try simp only [tdy] at h20
    refine AW_condT rfl ?_
    refine AW_shutB 300 101 0 rfl rfl rfl rfl ?_
    refine AW_draw rfl ?_
    refine AL_p (x_field (off := 0) (o' := 0) rfl rfl rfl (by kernel_rfl) rfl) ?_
    refine AL_p (x_load1 rfl rfl rfl (by kernel_rfl) rfl) ?_
    refine AL_p (x_move rfl rfl) ?_
    have d24 := dBelow_lt b (dBelow b c7 12).2 (n := 8) (by decide)
    refine AL_p (x_call (ks := []) (L := [(200, some _)]) (L' := [(200, some _)]) rfl rfl rfl (below_c b (dBelow b c7 12).2 hb 8) rfl AllV.rf (caught_of rfl) rfl rfl rfl ⟨rfl, trivial⟩ rfl) ?_
    refine AL_p (x_slice (E := 3) (n := 1) rfl rfl (by kernel_rfl) rfl .no (.yes (l := (dBelow b (dBelow b c7 12).2 8).1.toNat) rfl (by omega)) (by omega) (by first | exact Nat.le_refl _ | omega) rfl) ?_
    refine AL_p (x_field (off := 0) (o' := 0) rfl rfl rfl (by kernel_rfl) rfl) ?_
    refine AL_p (x_store (n := 1) rfl rfl rfl rfl (by kernel_rfl) rfl rfl rfl) ?_
    refine AL_nild (by kernel_rfl) ?_
    refine AW_seq ?_
    refine AW_seq ?_
    refine AW_regionN ?_
    refine AN_p (x_move rfl rfl) ?_
    refine AN_b (x_eql rfl rfl rfl) (fun b28 h28 => ?_)
    refine AN_nil ?_
    cases b28
    rotate_left
    · exfalso; simp at h28; omega
    try simp only [tdy] at h28
    refine AW_condF rfl ?_
    refine AW_skip ?_
    refine AW_seq ?_
    refine AW_seq ?_
    refine AW_regionN ?_
    refine AN_p (x_move rfl rfl) ?_
    refine AN_b (x_eql rfl rfl rfl) (fun b35 h35 => ?_)
    refine AN_nil ?_
    cases b35
    rotate_left
    · exfalso; simp at h35; omega
    try simp only [tdy] at h35
    refine AW_condF rfl ?_
    refine AW_skip ?_
    refine AW_seq ?_
    refine AW_regionN ?_
    refine AN_p (x_loadN (n := 1) rfl rfl rfl (by kernel_rfl) rfl rfl) ?_
    refine AN_p (x_store (n := 1) rfl rfl rfl rfl (by kernel_rfl) rfl rfl rfl) ?_
    refine AN_nil ?_
    refine AW_ret ?_
    refine ⟨⟨_, _⟩, ?_, rn [(9, 100)], by exact ⟨⟨⟨_, rfl, VLe.rf⟩, trivial⟩, ⟨⟨_, rfl, by first | exact BLe.rf | exact BLe.box (by repeat (first | exact trivial | refine ⟨by first | exact CLe.rf | exact CLe.nil, ?_⟩))⟩, ⟨_, rfl, BLe.rf⟩, trivial⟩, by repeat (first | exact trivial | refine ⟨⟨rfl, by first | (left; intro h; cases h) | (right; rfl), by first | exact (fun _ h => ⟨_, h⟩) | exact (fun _ _ => ⟨_, rfl⟩)⟩, ?_⟩), rfl⟩⟩
    dsimp only; first | (simp; omega) | omega
  try simp only [tdy] at h20
  refine AW_condF rfl ?_
  refine AW_skip ?_
  refine AW_seq ?_
  refine AW_seq ?_
  refine AW_regionN ?_
  refine AN_p (x_move rfl rfl) ?_
  refine AN_b (x_eql rfl rfl rfl) (fun b28 h28 => ?_)
  refine AN_nil ?_
  cases b28
  rotate_left
  · try simp only [tdy] at h28
    refine AW_condT rfl ?_
    refine AW_regionN ?_
    refine AN_p (x_field (off := 0) (o' := 0) rfl rfl rfl (by kernel_rfl) rfl) ?_
    refine AN_p (x_load1 rfl rfl rfl (by kernel_rfl) rfl) ?_
    refine AN_p (y_bslice (E := 3) (e := (intE .i64)) [.const (.int .i64 (0))] ([0]) 102 rfl rfl rfl rfl rfl rfl rfl rfl FitL.rf rfl rfl rfl rfl rfl rfl (by kernel_rfl)) ?_
    refine AN_p (y_append 103 rfl rfl rfl rfl rfl rfl rfl rfl (by kernel_rfl) (by simp; omega)) ?_
    refine AN_p (x_field (off := 0) (o' := 0) rfl rfl rfl (by kernel_rfl) rfl) ?_
    refine AN_p (x_store (n := 1) rfl rfl rfl rfl (by kernel_rfl) rfl rfl rfl) ?_
    refine AN_nil ?_
    refine AW_seq ?_
    refine AW_seq ?_
    refine AW_regionN ?_
    refine AN_p (x_move rfl rfl) ?_
    refine AN_b (x_eql rfl rfl rfl) (fun b35 h35 => ?_)
    refine AN_nil ?_
    cases b35
    rotate_left
    · exfalso; simp at h35; omega
    try simp only [tdy] at h35
    refine AW_condF rfl ?_
    refine AW_skip ?_
    refine AW_seq ?_
    refine AW_regionN ?_
    refine AN_p (x_loadN (n := 1) rfl rfl rfl (by kernel_rfl) rfl rfl) ?_
    refine AN_p (x_store (n := 1) rfl rfl rfl rfl (by kernel_rfl) rfl rfl rfl) ?_
    refine AN_nil ?_
    refine AW_shutB 103 100 0 rfl rfl rfl rfl ?_
    refine AW_ret ?_
    refine ⟨⟨_, _⟩, ?_, rn [(9, 100)], by exact ⟨⟨⟨_, rfl, VLe.rf⟩, trivial⟩, ⟨⟨_, rfl, by first | exact BLe.rf | exact BLe.box (by repeat (first | exact trivial | refine ⟨by first | exact CLe.rf | exact CLe.nil, ?_⟩))⟩, ⟨_, rfl, BLe.rf⟩, trivial⟩, by repeat (first | exact trivial | refine ⟨⟨rfl, by first | (left; intro h; cases h) | (right; rfl), by first | exact (fun _ h => ⟨_, h⟩) | exact (fun _ _ => ⟨_, rfl⟩)⟩, ?_⟩), rfl⟩⟩
    dsimp only; first | (simp; omega) | omega
  try simp only [tdy] at h28
  refine AW_condF rfl ?_
  refine AW_skip ?_
  refine AW_seq ?_
  refine AW_seq ?_
  refine AW_regionN ?_
  refine AN_p (x_move rfl rfl) ?_
  refine AN_b (x_eql rfl rfl rfl) (fun b35 h35 => ?_)
  refine AN_nil ?_
  cases b35
  · try simp only [tdy] at h35
    refine AW_condF rfl ?_
    refine AW_skip ?_
    refine AW_seq ?_
    refine AW_regionN ?_
    refine AN_p (x_loadN (n := 1) rfl rfl rfl (by kernel_rfl) rfl rfl) ?_
    refine AN_p (x_store (n := 1) rfl rfl rfl rfl (by kernel_rfl) rfl rfl rfl) ?_
    refine AN_nil ?_
    refine AW_shutB 300 100 0 rfl rfl rfl rfl ?_
    refine AW_ret ?_
    refine ⟨⟨_, _⟩, ?_, rn [(9, 100)], by exact ⟨⟨⟨_, rfl, VLe.rf⟩, trivial⟩, ⟨⟨_, rfl, by first | exact BLe.rf | exact BLe.box (by repeat (first | exact trivial | refine ⟨by first | exact CLe.rf | exact CLe.nil, ?_⟩))⟩, ⟨_, rfl, BLe.rf⟩, trivial⟩, by repeat (first | exact trivial | refine ⟨⟨rfl, by first | (left; intro h; cases h) | (right; rfl), by first | exact (fun _ h => ⟨_, h⟩) | exact (fun _ _ => ⟨_, rfl⟩)⟩, ?_⟩), rfl⟩⟩
    dsimp only; first | (simp; omega) | omega
  try simp only [tdy] at h35
  refine AW_condT rfl ?_
  refine AW_seq ?_
  refine AW_regionN ?_
  refine AN_p (x_move rfl rfl) ?_
  have d37 := dBelow_lt b (dBelow b c7 12).2 (n := 8) (by decide)
  refine AN_p (x_call (ks := []) (L := [(200, some _)]) (L' := [(200, some _)]) rfl rfl rfl (below_c b (dBelow b c7 12).2 hb 8) rfl AllV.rf (caught_of rfl) rfl rfl rfl ⟨rfl, trivial⟩ rfl) ?_
  refine AN_p (x_assign rfl rfl) ?_
  refine AN_nil ?_
  refine AW_draw rfl ?_
  refine AL_p (x_field (off := 0) (o' := 0) rfl rfl rfl (by kernel_rfl) rfl) ?_
  refine AL_p (x_load1 rfl rfl rfl (by kernel_rfl) rfl) ?_
  refine AL_p (x_move rfl rfl) ?_
  refine AL_p (x_move rfl rfl) ?_
  refine AL_p (x_call0 rfl rfl rfl (fbS_c _) rfl rfl) ?_
  refine AL_p (x_quo rfl rfl rfl (by decide) (bitsOf_quo _)) ?_
  refine AL_p (x_call0 rfl rfl rfl (pow_c (bitsOf (dBelow b (dBelow b c7 12).2 8).1 / 8) (by have := bitsOf_le (dBelow b (dBelow b c7 12).2 8).1; omega) (by have := bitsOf_le (dBelow b (dBelow b c7 12).2 8).1; omega)) rfl rfl) ?_
  refine AL_p (x_oindex (n := 1) rfl rfl rfl rfl (by kernel_rfl) rfl (k := (dBelow b (dBelow b c7 12).2 8).1.toNat) (by omega) (by first | omega | (simp only [List.length_set]; omega) | (simp; omega))) ?_
  refine AL_p (x_ostore (_) rfl rfl rfl rfl (by kernel_rfl) rfl rfl rfl rfl FitL.rf rfl rfl (by first | omega | (rw [filledTo_len (by omega)]; omega) | (simp; omega))) ?_
  refine AL_nild (by kernel_rfl) ?_
  refine AW_seq ?_
  refine AW_regionN ?_
  refine AN_p (x_loadN (n := 1) rfl rfl rfl (by kernel_rfl) rfl rfl) ?_
  refine AN_p (x_store (n := 1) rfl rfl rfl rfl (by kernel_rfl) rfl rfl rfl) ?_
  refine AN_nil ?_
  refine AW_shutB 300 100 0 rfl rfl rfl rfl ?_
  refine AW_ret ?_
  refine ⟨⟨_, _⟩, ?_, rn [(9, 100)], by exact ⟨⟨⟨_, rfl, VLe.rf⟩, trivial⟩, ⟨⟨_, rfl, by first | exact BLe.rf | exact BLe.box (by repeat (first | exact trivial | refine ⟨by first | exact CLe.rf | exact CLe.nil, ?_⟩))⟩, ⟨_, rfl, BLe.rf⟩, trivial⟩, by repeat (first | exact trivial | refine ⟨⟨rfl, by first | (left; intro h; cases h) | (right; rfl), by first | exact (fun _ h => ⟨_, h⟩) | exact (fun _ _ => ⟨_, rfl⟩)⟩, ?_⟩), rfl⟩⟩
  dsimp only; first | (simp; omega) | omega

set_option maxHeartbeats 4000000 in
theorem match_x (b : List Int) (c : Cur) (hb : b.length ≤ 1048576) : AX Try.prog 145 [.one (.ptr 200 0)] [(200, some (curB b c))] (ι := (List Int × List Int) × Cur) (fun i => i.1.1.length = 8 ∧ i.1.2.length = 8) (fun i => .agg [.own 301, .own 302]) (fun i => [(200, some (curB b i.2)), (301, some (.arr 3 (intE .i64) i.1.1 true)), (302, some (.arr 3 (intE .i64) i.1.2 true))]) := by
  refine AX_bodyC (n := 2) (k := 9) (cs := fun (i : (List Int × List Int) × Cur) => [.own 301, .own 302]) (T := fun (_ : (List Int × List Int) × Cur) => [(2, .one (.ptr 9 0))]) (Lf := fun (i : (List Int × List Int) × Cur) => ((9, some (.box [.own 301, .own 302])) :: [(200, some (curB b i.2)), (301, some (.arr 3 (intE .i64) i.1.1 true)), (302, some (.arr 3 (intE .i64) i.1.2 true))])) (L' := fun (i : (List Int × List Int) × Cur) => [(200, some (curB b i.2)), (301, some (.arr 3 (intE .i64) i.1.1 true)), (302, some (.arr 3 (intE .i64) i.1.2 true))]) Try.func145 rfl rfl Try.ntmps145 rfl Try.results145 (fun _ => rfl) (fun _ => rfl) (by kernel_rfl) (fun _ => rfl) (fun _ => rfl) (fun (_ : (List Int × List Int) × Cur) => ⟨trivial, (by repeat (first | exact trivial | refine ⟨⟨_, rfl, BLe.rf⟩, ?_⟩)), (by repeat (first | exact trivial | refine ⟨⟨rfl, by first | (left; intro h; cases h) | (right; rfl), by first | exact (fun _ h => ⟨_, h⟩) | exact (fun _ _ => ⟨_, rfl⟩)⟩, ?_⟩)), rfl⟩) ?_
  refine AW_seq ?_
  refine AW_regionN ?_
  refine AN_p (x_alloc (z := .agg #[.slice none 0 0, .slice none 0 0]) 100 rfl (by kernel_rfl) rfl rfl rfl rfl) ?_
  refine AN_nil ?_
  refine AW_seq ?_
  refine AW_regionN ?_
  refine AN_p (x_callR rfl rfl rfl (AC.renum (res := .agg [.own 101, .own 102]) (L := [(101, some (.arr 3 (intE .i64) (List.replicate 8 0) true)), (102, some (.arr 3 (intE .i64) (List.replicate 8 0) true))]) (r := rn [(101, 0), (102, 1)]) matchAll_c ⟨⟨_, rfl, BLe.rf⟩, ⟨_, rfl, BLe.rf⟩, trivial⟩ rfl) rfl AllV.rf rfl rfl rfl rfl rfl) ?_
  refine AN_p (x_alloc (z := .agg #[.slice none 0 0, .slice none 0 0]) 103 rfl (by kernel_rfl) rfl rfl rfl rfl) ?_
  refine AN_p (x_store (n := 2) rfl rfl rfl rfl (by kernel_rfl) rfl rfl rfl) ?_
  refine AN_nil ?_
  refine AW_seq ?_
  refine AW_regionN ?_
  refine AN_p (x_move rfl rfl) ?_
  refine AN_x (L := [(200, some (curB b c))]) rfl rfl rfl (head_x b c hb) rfl rfl (fun _ => rfl) (fun _ => rfl) ⟨rfl, trivial⟩ (fun _ => rfl) ?_
  rintro ⟨x10, c10⟩ g10
  dsimp only at g10 ⊢
  refine AN_p (x_alloc (z := .agg #[.slice none 0 0]) 104 rfl (by kernel_rfl) rfl rfl rfl rfl) ?_
  refine AN_p (x_store (n := 1) rfl rfl rfl rfl (by kernel_rfl) rfl rfl rfl) ?_
  refine AN_nil ?_
  refine AW_seq ?_
  refine AW_seq ?_
  refine AW_regionN ?_
  refine AN_p (x_move rfl rfl) ?_
  have d12 := dBelow_lt b c10 (n := 4) (by decide)
  refine AN_p (x_call (ks := []) (L := [(200, some _)]) (L' := [(200, some _)]) rfl rfl rfl (below_c b c10 hb 4) rfl AllV.rf (caught_of rfl) rfl rfl rfl ⟨rfl, trivial⟩ rfl) ?_
  refine AN_p (x_assign rfl rfl) ?_
  refine AN_nil ?_
  refine AW_block ?_
  refine AW_loop2 (ι := {q : Int × List Int × List Int × Cur // (q.2.1).length = 8 ∧ (q.2.2.1).length = 8 ∧ (q.1) ≤ 4}) (fun p => [(5, .one (.c (.int .i64 (p.1.1))))]) (fun p => [(101, some (.arr 3 (intE .i64) (p.1.2.1) true)), (102, some (.arr 3 (intE .i64) (p.1.2.2.1) true)), (200, some (curB b (p.1.2.2.2)))]) [0, 2, 3, 4] [100, 103, 104, 300] (fun p => (p.1.1).toNat) ⟨⟨(dBelow b c10 4).1, List.replicate 8 0, List.replicate 8 0, (dBelow b c10 4).2⟩, ⟨by simp, by simp, by dsimp only; omega⟩⟩ (rn []) ?_ ?_
  exact ⟨by (repeat refine ⟨⟨_, rfl, by first | exact VLe.rf | exact vle_int (by dsimp only; omega)⟩, ?_⟩); exact trivial, by (repeat refine ⟨⟨_, rfl, by first | exact BLe.rf | exact BLe.box AllC.rf | exact BLe.arr (by exact rfl)⟩, ?_⟩); exact trivial, by repeat (first | exact trivial | refine ⟨⟨rfl, by first | (left; intro h; cases h) | (right; rfl), by first | exact (fun _ h => ⟨_, h⟩) | exact (fun _ _ => ⟨_, rfl⟩)⟩, ?_⟩), rfl⟩
  rintro ⟨⟨n, vs, ms, cc⟩, hinv⟩
  dsimp only
  obtain ⟨hv, hm, hn⟩ := hinv
  have hv : vs.length = 8 := hv
  have hm : ms.length = 8 := hm
  have hn : n ≤ 4 := hn
  refine AW_seq ?_
  refine AW_seq ?_
  refine AW_regionN ?_
  refine AN_p (x_move rfl rfl) ?_
  refine AN_b (x_gtr rfl rfl rfl) (fun b14 h14 => ?_)
  refine AN_nil ?_
  cases b14
  · try simp only [tdy] at h14
    refine AW_condF rfl ?_
    refine AW_exit (BQ_hit ?_)
    refine AW_seq ?_
    refine AW_regionN ?_
    refine AN_p (x_loadN (n := 2) rfl rfl rfl (by kernel_rfl) rfl rfl) ?_
    refine AN_p (x_store (n := 2) rfl rfl rfl rfl (by kernel_rfl) rfl rfl rfl) ?_
    refine AN_nil ?_
    refine AW_ret ?_
    refine ⟨⟨⟨_, _⟩, _⟩, ?_, rn [(9, 100), (301, 101), (302, 102)], by exact ⟨⟨⟨_, rfl, VLe.rf⟩, trivial⟩, ⟨⟨_, rfl, by first | exact BLe.rf | exact BLe.box (by repeat (first | exact trivial | refine ⟨by first | exact CLe.rf | exact CLe.nil, ?_⟩))⟩, ⟨_, rfl, BLe.rf⟩, ⟨_, rfl, BLe.rf⟩, ⟨_, rfl, BLe.rf⟩, trivial⟩, by repeat (first | exact trivial | refine ⟨⟨rfl, by first | (left; intro h; cases h) | (right; rfl), by first | exact (fun _ h => ⟨_, h⟩) | exact (fun _ _ => ⟨_, rfl⟩)⟩, ?_⟩), rfl⟩⟩
    exact ⟨by first | assumption | (dsimp only; omega), by first | assumption | (dsimp only; omega)⟩
  try simp only [tdy] at h14
  refine AW_condT rfl ?_
  refine AW_skip ?_
  refine AW_seq ?_
  refine AW_block ?_
  refine AW_seq ?_
  refine AW_regionN ?_
  refine AN_p (x_move rfl rfl) ?_
  have d18 := dBelow_lt b cc (n := 8) (by decide)
  refine AN_p (x_call (ks := []) (L := [(200, some _)]) (L' := [(200, some _)]) rfl rfl rfl (below_c b cc hb 8) rfl AllV.rf (caught_of rfl) rfl rfl rfl ⟨rfl, trivial⟩ rfl) ?_
  refine AN_p (x_assign rfl rfl) ?_
  refine AN_nil ?_
  refine AW_seq ?_
  refine AW_seq ?_
  refine AW_regionN ?_
  refine AN_p (x_move rfl rfl) ?_
  have d20 := dBelow_lt b (dBelow b cc 8).2 (n := 4) (by decide)
  refine AN_p (x_call (ks := []) (L := [(200, some _)]) (L' := [(200, some _)]) rfl rfl rfl (below_c b (dBelow b cc 8).2 hb 4) rfl AllV.rf (caught_of rfl) rfl rfl rfl ⟨rfl, trivial⟩ rfl) ?_
  refine AN_b (x_eql rfl rfl rfl) (fun b21 h21 => ?_)
  refine AN_nil ?_
  cases b21
  · try simp only [tdy] at h21
    refine AW_condF rfl ?_
    refine AW_skip ?_
    refine AW_seq ?_
    refine AW_draw rfl ?_
    refine AL_p (x_field (off := 1) (o' := 1) rfl rfl rfl (by kernel_rfl) rfl) ?_
    refine AL_p (x_load1 rfl rfl rfl (by kernel_rfl) rfl) ?_
    refine AL_p (x_move rfl rfl) ?_
    refine AL_p (x_move rfl rfl) ?_
    refine AL_p (x_call0 rfl rfl rfl (fullS_c (dBelow b cc 8).1 (by omega) (by omega)) rfl rfl) ?_
    refine AL_p (x_oindex (n := 1) rfl rfl rfl rfl (by kernel_rfl) rfl (k := (dBelow b cc 8).1.toNat) (by omega) (by first | omega | (simp only [List.length_set]; omega) | (simp; omega))) ?_
    refine AL_p (x_ostore (_) rfl rfl rfl rfl (by kernel_rfl) rfl rfl rfl rfl FitL.rf rfl rfl (by first | omega | (rw [filledTo_len (by omega)]; omega) | (simp; omega))) ?_
    refine AL_nild (by kernel_rfl) ?_
    refine AW_seq ?_
    refine AW_regionN ?_
    refine AN_p (x_move rfl rfl) ?_
    have d32 := dBelow_lt b (dBelow b (dBelow b cc 8).2 4).2 (n := 6) (by decide)
    refine AN_p (x_call (ks := []) (L := [(200, some _)]) (L' := [(200, some _)]) rfl rfl rfl (below_c b (dBelow b (dBelow b cc 8).2 4).2 hb 6) rfl AllV.rf (caught_of rfl) rfl rfl rfl ⟨rfl, trivial⟩ rfl) ?_
    refine AN_p (x_assign rfl rfl) ?_
    refine AN_nil ?_
    refine AW_seq ?_
    refine AW_seq ?_
    refine AW_regionN ?_
    refine AN_p (x_move rfl rfl) ?_
    refine AN_b (x_eql rfl rfl rfl) (fun b34 h34 => ?_)
    refine AN_nil ?_
    cases b34
    · try simp only [tdy] at h34
      refine AW_condF rfl ?_
      refine AW_skip ?_
      refine AW_seq ?_
      refine AW_seq ?_
      refine AW_regionN ?_
      refine AN_p (x_move rfl rfl) ?_
      refine AN_b (x_eql rfl rfl rfl) (fun b48 h48 => ?_)
      refine AN_nil ?_
      cases b48
      · try simp only [tdy] at h48
        refine AW_condF rfl ?_
        refine AW_skip ?_
        refine AW_draw rfl ?_
        refine AL_p (x_field (off := 0) (o' := 0) rfl rfl rfl (by kernel_rfl) rfl) ?_
        refine AL_p (x_load1 rfl rfl rfl (by kernel_rfl) rfl) ?_
        refine AL_p (x_move rfl rfl) ?_
        refine AL_p (x_field (off := 0) (o' := 0) rfl rfl rfl (by kernel_rfl) rfl) ?_
        refine AL_p (x_load1 rfl rfl rfl (by kernel_rfl) rfl) ?_
        refine AL_p (x_move rfl rfl) ?_
        refine AL_p (x_oindex (n := 1) rfl rfl rfl rfl (by kernel_rfl) rfl (k := (dBelow b cc 8).1.toNat) (by omega) (by first | omega | (simp only [List.length_set]; omega) | (simp; omega))) ?_
        refine AL_p (x_oload1 rfl rfl rfl (by kernel_rfl) (by first | omega | (simp only [List.length_set]; omega) | (simp; omega)) rfl) ?_
        refine AL_p (x_field (off := 1) (o' := 1) rfl rfl rfl (by kernel_rfl) rfl) ?_
        refine AL_p (x_load1 rfl rfl rfl (by kernel_rfl) rfl) ?_
        refine AL_p (x_move rfl rfl) ?_
        refine AL_p (x_oindex (n := 1) rfl rfl rfl rfl (by kernel_rfl) rfl (k := (dBelow b cc 8).1.toNat) (by omega) (by first | omega | (simp only [List.length_set]; omega) | (simp; omega))) ?_
        refine AL_p (x_oload1 rfl rfl rfl (by kernel_rfl) (by first | omega | (simp only [List.length_set]; omega) | (simp; omega)) rfl) ?_
        refine AL_p (x_and rfl rfl rfl ) ?_
        refine AL_p (x_oindex (n := 1) rfl rfl rfl rfl (by kernel_rfl) rfl (k := (dBelow b cc 8).1.toNat) (by omega) (by first | omega | (simp only [List.length_set]; omega) | (simp; omega))) ?_
        refine AL_p (x_ostore (_) rfl rfl rfl rfl (by kernel_rfl) rfl rfl rfl rfl FitL.rf rfl rfl (by first | omega | (rw [filledTo_len (by omega)]; omega) | (simp; omega))) ?_
        refine AL_nild (by kernel_rfl) ?_
        refine AW_regionN ?_
        refine AN_p (x_move rfl rfl) ?_
        refine AN_p (x_sub rfl rfl rfl (IntWalk.i64_in _ (by omega))) ?_
        refine AN_p (x_assign rfl rfl) ?_
        refine AN_nil ?_
        refine ⟨⟨⟨_, _, _, _⟩, ?_⟩, rn [], by exact ⟨by (repeat refine ⟨⟨_, rfl, by first | exact VLe.rf | exact vle_int (by dsimp only; omega)⟩, ?_⟩); exact trivial, by (repeat refine ⟨⟨_, rfl, by first | exact BLe.rf | exact BLe.box AllC.rf | exact BLe.arr (by exact rfl)⟩, ?_⟩); exact trivial, by repeat (first | exact trivial | refine ⟨⟨rfl, by first | (left; intro h; cases h) | (right; rfl), by first | exact (fun _ h => ⟨_, h⟩) | exact (fun _ _ => ⟨_, rfl⟩)⟩, ?_⟩), rfl⟩, by dsimp only; omega⟩
        exact ⟨by simp only [List.length_set]; omega, by simp only [List.length_set]; omega, by dsimp only; omega⟩
      try simp only [tdy] at h48
      refine AW_condT rfl ?_
      refine AW_draw rfl ?_
      refine AL_p (x_field (off := 1) (o' := 1) rfl rfl rfl (by kernel_rfl) rfl) ?_
      refine AL_p (x_load1 rfl rfl rfl (by kernel_rfl) rfl) ?_
      refine AL_p (x_move rfl rfl) ?_
      refine AL_p (x_move rfl rfl) ?_
      have d53 := dBelow_lt b (dBelow b (dBelow b (dBelow b cc 8).2 4).2 6).2 (n := 3) (by decide)
      refine AL_p (x_call (ks := []) (L := [(200, some _)]) (L' := [(200, some _)]) rfl rfl rfl (below_c b (dBelow b (dBelow b (dBelow b cc 8).2 4).2 6).2 hb 3) rfl AllV.rf (caught_of rfl) rfl rfl rfl ⟨rfl, trivial⟩ rfl) ?_
      refine AL_p (x_shl rfl rfl rfl (by omega) rfl) ?_
      refine AL_p (x_oindex (n := 1) rfl rfl rfl rfl (by kernel_rfl) rfl (k := (dBelow b cc 8).1.toNat) (by omega) (by first | omega | (simp only [List.length_set]; omega) | (simp; omega))) ?_
      refine AL_p (x_ostore (_) rfl rfl rfl rfl (by kernel_rfl) rfl rfl rfl rfl FitL.rf rfl rfl (by first | omega | (rw [filledTo_len (by omega)]; omega) | (simp; omega))) ?_
      refine AL_nild (by kernel_rfl) ?_
      refine AW_draw rfl ?_
      refine AL_p (x_field (off := 0) (o' := 0) rfl rfl rfl (by kernel_rfl) rfl) ?_
      refine AL_p (x_load1 rfl rfl rfl (by kernel_rfl) rfl) ?_
      refine AL_p (x_move rfl rfl) ?_
      refine AL_p (x_field (off := 0) (o' := 0) rfl rfl rfl (by kernel_rfl) rfl) ?_
      refine AL_p (x_load1 rfl rfl rfl (by kernel_rfl) rfl) ?_
      refine AL_p (x_move rfl rfl) ?_
      refine AL_p (x_oindex (n := 1) rfl rfl rfl rfl (by kernel_rfl) rfl (k := (dBelow b cc 8).1.toNat) (by omega) (by first | omega | (simp only [List.length_set]; omega) | (simp; omega))) ?_
      refine AL_p (x_oload1 rfl rfl rfl (by kernel_rfl) (by first | omega | (simp only [List.length_set]; omega) | (simp; omega)) rfl) ?_
      refine AL_p (x_field (off := 1) (o' := 1) rfl rfl rfl (by kernel_rfl) rfl) ?_
      refine AL_p (x_load1 rfl rfl rfl (by kernel_rfl) rfl) ?_
      refine AL_p (x_move rfl rfl) ?_
      refine AL_p (x_oindex (n := 1) rfl rfl rfl rfl (by kernel_rfl) rfl (k := (dBelow b cc 8).1.toNat) (by omega) (by first | omega | (simp only [List.length_set]; omega) | (simp; omega))) ?_
      refine AL_p (x_oload1 rfl rfl rfl (by kernel_rfl) (by first | omega | (simp only [List.length_set]; omega) | (simp; omega)) rfl) ?_
      refine AL_p (x_and rfl rfl rfl ) ?_
      refine AL_p (x_oindex (n := 1) rfl rfl rfl rfl (by kernel_rfl) rfl (k := (dBelow b cc 8).1.toNat) (by omega) (by first | omega | (simp only [List.length_set]; omega) | (simp; omega))) ?_
      refine AL_p (x_ostore (_) rfl rfl rfl rfl (by kernel_rfl) rfl rfl rfl rfl FitL.rf rfl rfl (by first | omega | (rw [filledTo_len (by omega)]; omega) | (simp; omega))) ?_
      refine AL_nild (by kernel_rfl) ?_
      refine AW_regionN ?_
      refine AN_p (x_move rfl rfl) ?_
      refine AN_p (x_sub rfl rfl rfl (IntWalk.i64_in _ (by omega))) ?_
      refine AN_p (x_assign rfl rfl) ?_
      refine AN_nil ?_
      refine ⟨⟨⟨_, _, _, _⟩, ?_⟩, rn [], by exact ⟨by (repeat refine ⟨⟨_, rfl, by first | exact VLe.rf | exact vle_int (by dsimp only; omega)⟩, ?_⟩); exact trivial, by (repeat refine ⟨⟨_, rfl, by first | exact BLe.rf | exact BLe.box AllC.rf | exact BLe.arr (by exact rfl)⟩, ?_⟩); exact trivial, by repeat (first | exact trivial | refine ⟨⟨rfl, by first | (left; intro h; cases h) | (right; rfl), by first | exact (fun _ h => ⟨_, h⟩) | exact (fun _ _ => ⟨_, rfl⟩)⟩, ?_⟩), rfl⟩, by dsimp only; omega⟩
      exact ⟨by simp only [List.length_set]; omega, by simp only [List.length_set]; omega, by dsimp only; omega⟩
    try simp only [tdy] at h34
    refine AW_condT rfl ?_
    refine AW_draw rfl ?_
    refine AL_p (x_field (off := 1) (o' := 1) rfl rfl rfl (by kernel_rfl) rfl) ?_
    refine AL_p (x_load1 rfl rfl rfl (by kernel_rfl) rfl) ?_
    refine AL_p (x_move rfl rfl) ?_
    refine AL_p (x_field (off := 1) (o' := 1) rfl rfl rfl (by kernel_rfl) rfl) ?_
    refine AL_p (x_load1 rfl rfl rfl (by kernel_rfl) rfl) ?_
    refine AL_p (x_move rfl rfl) ?_
    refine AL_p (x_oindex (n := 1) rfl rfl rfl rfl (by kernel_rfl) rfl (k := (dBelow b cc 8).1.toNat) (by omega) (by first | omega | (simp only [List.length_set]; omega) | (simp; omega))) ?_
    refine AL_p (x_oload1 rfl rfl rfl (by kernel_rfl) (by first | omega | (simp only [List.length_set]; omega) | (simp; omega)) rfl) ?_
    refine AL_p (x_move rfl rfl) ?_
    have d44 := dBelow_lt b (dBelow b (dBelow b (dBelow b cc 8).2 4).2 6).2 (n := 8) (by decide)
    refine AL_p (x_call (ks := []) (L := [(200, some _)]) (L' := [(200, some _)]) rfl rfl rfl (below_c b (dBelow b (dBelow b (dBelow b cc 8).2 4).2 6).2 hb 8) rfl AllV.rf (caught_of rfl) rfl rfl rfl ⟨rfl, trivial⟩ rfl) ?_
    refine AL_p (x_sub rfl rfl rfl (r := w64 _) rfl) ?_
    refine AL_p (x_oindex (n := 1) rfl rfl rfl rfl (by kernel_rfl) rfl (k := (dBelow b cc 8).1.toNat) (by omega) (by first | omega | (simp only [List.length_set]; omega) | (simp; omega))) ?_
    refine AL_p (x_ostore (_) rfl rfl rfl rfl (by kernel_rfl) rfl rfl rfl rfl FitL.rf rfl rfl (by first | omega | (rw [filledTo_len (by omega)]; omega) | (simp; omega))) ?_
    refine AL_nild (by kernel_rfl) ?_
    refine AW_seq ?_
    refine AW_seq ?_
    refine AW_regionN ?_
    refine AN_p (x_move rfl rfl) ?_
    refine AN_b (x_eql rfl rfl rfl) (fun b48 h48 => ?_)
    refine AN_nil ?_
    cases b48
    · try simp only [tdy] at h48
      refine AW_condF rfl ?_
      refine AW_skip ?_
      refine AW_draw rfl ?_
      refine AL_p (x_field (off := 0) (o' := 0) rfl rfl rfl (by kernel_rfl) rfl) ?_
      refine AL_p (x_load1 rfl rfl rfl (by kernel_rfl) rfl) ?_
      refine AL_p (x_move rfl rfl) ?_
      refine AL_p (x_field (off := 0) (o' := 0) rfl rfl rfl (by kernel_rfl) rfl) ?_
      refine AL_p (x_load1 rfl rfl rfl (by kernel_rfl) rfl) ?_
      refine AL_p (x_move rfl rfl) ?_
      refine AL_p (x_oindex (n := 1) rfl rfl rfl rfl (by kernel_rfl) rfl (k := (dBelow b cc 8).1.toNat) (by omega) (by first | omega | (simp only [List.length_set]; omega) | (simp; omega))) ?_
      refine AL_p (x_oload1 rfl rfl rfl (by kernel_rfl) (by first | omega | (simp only [List.length_set]; omega) | (simp; omega)) rfl) ?_
      refine AL_p (x_field (off := 1) (o' := 1) rfl rfl rfl (by kernel_rfl) rfl) ?_
      refine AL_p (x_load1 rfl rfl rfl (by kernel_rfl) rfl) ?_
      refine AL_p (x_move rfl rfl) ?_
      refine AL_p (x_oindex (n := 1) rfl rfl rfl rfl (by kernel_rfl) rfl (k := (dBelow b cc 8).1.toNat) (by omega) (by first | omega | (simp only [List.length_set]; omega) | (simp; omega))) ?_
      refine AL_p (x_oload1 rfl rfl rfl (by kernel_rfl) (by first | omega | (simp only [List.length_set]; omega) | (simp; omega)) rfl) ?_
      refine AL_p (x_and rfl rfl rfl ) ?_
      refine AL_p (x_oindex (n := 1) rfl rfl rfl rfl (by kernel_rfl) rfl (k := (dBelow b cc 8).1.toNat) (by omega) (by first | omega | (simp only [List.length_set]; omega) | (simp; omega))) ?_
      refine AL_p (x_ostore (_) rfl rfl rfl rfl (by kernel_rfl) rfl rfl rfl rfl FitL.rf rfl rfl (by first | omega | (rw [filledTo_len (by omega)]; omega) | (simp; omega))) ?_
      refine AL_nild (by kernel_rfl) ?_
      refine AW_regionN ?_
      refine AN_p (x_move rfl rfl) ?_
      refine AN_p (x_sub rfl rfl rfl (IntWalk.i64_in _ (by omega))) ?_
      refine AN_p (x_assign rfl rfl) ?_
      refine AN_nil ?_
      refine ⟨⟨⟨_, _, _, _⟩, ?_⟩, rn [], by exact ⟨by (repeat refine ⟨⟨_, rfl, by first | exact VLe.rf | exact vle_int (by dsimp only; omega)⟩, ?_⟩); exact trivial, by (repeat refine ⟨⟨_, rfl, by first | exact BLe.rf | exact BLe.box AllC.rf | exact BLe.arr (by exact rfl)⟩, ?_⟩); exact trivial, by repeat (first | exact trivial | refine ⟨⟨rfl, by first | (left; intro h; cases h) | (right; rfl), by first | exact (fun _ h => ⟨_, h⟩) | exact (fun _ _ => ⟨_, rfl⟩)⟩, ?_⟩), rfl⟩, by dsimp only; omega⟩
      exact ⟨by simp only [List.length_set]; omega, by simp only [List.length_set]; omega, by dsimp only; omega⟩
    try simp only [tdy] at h48
    refine AW_condT rfl ?_
    refine AW_draw rfl ?_
    refine AL_p (x_field (off := 1) (o' := 1) rfl rfl rfl (by kernel_rfl) rfl) ?_
    refine AL_p (x_load1 rfl rfl rfl (by kernel_rfl) rfl) ?_
    refine AL_p (x_move rfl rfl) ?_
    refine AL_p (x_move rfl rfl) ?_
    have d53 := dBelow_lt b (dBelow b (dBelow b (dBelow b (dBelow b cc 8).2 4).2 6).2 8).2 (n := 3) (by decide)
    refine AL_p (x_call (ks := []) (L := [(200, some _)]) (L' := [(200, some _)]) rfl rfl rfl (below_c b (dBelow b (dBelow b (dBelow b (dBelow b cc 8).2 4).2 6).2 8).2 hb 3) rfl AllV.rf (caught_of rfl) rfl rfl rfl ⟨rfl, trivial⟩ rfl) ?_
    refine AL_p (x_shl rfl rfl rfl (by omega) rfl) ?_
    refine AL_p (x_oindex (n := 1) rfl rfl rfl rfl (by kernel_rfl) rfl (k := (dBelow b cc 8).1.toNat) (by omega) (by first | omega | (simp only [List.length_set]; omega) | (simp; omega))) ?_
    refine AL_p (x_ostore (_) rfl rfl rfl rfl (by kernel_rfl) rfl rfl rfl rfl FitL.rf rfl rfl (by first | omega | (rw [filledTo_len (by omega)]; omega) | (simp; omega))) ?_
    refine AL_nild (by kernel_rfl) ?_
    refine AW_draw rfl ?_
    refine AL_p (x_field (off := 0) (o' := 0) rfl rfl rfl (by kernel_rfl) rfl) ?_
    refine AL_p (x_load1 rfl rfl rfl (by kernel_rfl) rfl) ?_
    refine AL_p (x_move rfl rfl) ?_
    refine AL_p (x_field (off := 0) (o' := 0) rfl rfl rfl (by kernel_rfl) rfl) ?_
    refine AL_p (x_load1 rfl rfl rfl (by kernel_rfl) rfl) ?_
    refine AL_p (x_move rfl rfl) ?_
    refine AL_p (x_oindex (n := 1) rfl rfl rfl rfl (by kernel_rfl) rfl (k := (dBelow b cc 8).1.toNat) (by omega) (by first | omega | (simp only [List.length_set]; omega) | (simp; omega))) ?_
    refine AL_p (x_oload1 rfl rfl rfl (by kernel_rfl) (by first | omega | (simp only [List.length_set]; omega) | (simp; omega)) rfl) ?_
    refine AL_p (x_field (off := 1) (o' := 1) rfl rfl rfl (by kernel_rfl) rfl) ?_
    refine AL_p (x_load1 rfl rfl rfl (by kernel_rfl) rfl) ?_
    refine AL_p (x_move rfl rfl) ?_
    refine AL_p (x_oindex (n := 1) rfl rfl rfl rfl (by kernel_rfl) rfl (k := (dBelow b cc 8).1.toNat) (by omega) (by first | omega | (simp only [List.length_set]; omega) | (simp; omega))) ?_
    refine AL_p (x_oload1 rfl rfl rfl (by kernel_rfl) (by first | omega | (simp only [List.length_set]; omega) | (simp; omega)) rfl) ?_
    refine AL_p (x_and rfl rfl rfl ) ?_
    refine AL_p (x_oindex (n := 1) rfl rfl rfl rfl (by kernel_rfl) rfl (k := (dBelow b cc 8).1.toNat) (by omega) (by first | omega | (simp only [List.length_set]; omega) | (simp; omega))) ?_
    refine AL_p (x_ostore (_) rfl rfl rfl rfl (by kernel_rfl) rfl rfl rfl rfl FitL.rf rfl rfl (by first | omega | (rw [filledTo_len (by omega)]; omega) | (simp; omega))) ?_
    refine AL_nild (by kernel_rfl) ?_
    refine AW_regionN ?_
    refine AN_p (x_move rfl rfl) ?_
    refine AN_p (x_sub rfl rfl rfl (IntWalk.i64_in _ (by omega))) ?_
    refine AN_p (x_assign rfl rfl) ?_
    refine AN_nil ?_
    refine ⟨⟨⟨_, _, _, _⟩, ?_⟩, rn [], by exact ⟨by (repeat refine ⟨⟨_, rfl, by first | exact VLe.rf | exact vle_int (by dsimp only; omega)⟩, ?_⟩); exact trivial, by (repeat refine ⟨⟨_, rfl, by first | exact BLe.rf | exact BLe.box AllC.rf | exact BLe.arr (by exact rfl)⟩, ?_⟩); exact trivial, by repeat (first | exact trivial | refine ⟨⟨rfl, by first | (left; intro h; cases h) | (right; rfl), by first | exact (fun _ h => ⟨_, h⟩) | exact (fun _ _ => ⟨_, rfl⟩)⟩, ?_⟩), rfl⟩, by dsimp only; omega⟩
    exact ⟨by simp only [List.length_set]; omega, by simp only [List.length_set]; omega, by dsimp only; omega⟩
  try simp only [tdy] at h21
  refine AW_condT rfl ?_
  refine AW_regionN ?_
  refine AN_p (x_move rfl rfl) ?_
  have d23 := dBelow_lt b (dBelow b (dBelow b cc 8).2 4).2 (n := 2) (by decide)
  refine AN_p (x_call (ks := []) (L := [(200, some _)]) (L' := [(200, some _)]) rfl rfl rfl (below_c b (dBelow b (dBelow b cc 8).2 4).2 hb 2) rfl AllV.rf (caught_of rfl) rfl rfl rfl ⟨rfl, trivial⟩ rfl) ?_
  refine AN_p (x_add rfl rfl rfl (IntWalk.i64_in _ (by omega))) ?_
  refine AN_p (x_assign rfl rfl) ?_
  refine AN_nil ?_
  refine AW_seq ?_
  refine AW_draw rfl ?_
  refine AL_p (x_field (off := 1) (o' := 1) rfl rfl rfl (by kernel_rfl) rfl) ?_
  refine AL_p (x_load1 rfl rfl rfl (by kernel_rfl) rfl) ?_
  refine AL_p (x_move rfl rfl) ?_
  refine AL_p (x_move rfl rfl) ?_
  refine AL_p (x_call0 rfl rfl rfl (fullS_c (1 + (dBelow b (dBelow b (dBelow b cc 8).2 4).2 2).1) (by omega) (by omega)) rfl rfl) ?_
  refine AL_p (x_oindex (n := 1) rfl rfl rfl rfl (by kernel_rfl) rfl (k := (1 + (dBelow b (dBelow b (dBelow b cc 8).2 4).2 2).1).toNat) (by omega) (by first | omega | (simp only [List.length_set]; omega) | (simp; omega))) ?_
  refine AL_p (x_ostore (_) rfl rfl rfl rfl (by kernel_rfl) rfl rfl rfl rfl FitL.rf rfl rfl (by first | omega | (rw [filledTo_len (by omega)]; omega) | (simp; omega))) ?_
  refine AL_nild (by kernel_rfl) ?_
  refine AW_seq ?_
  refine AW_regionN ?_
  refine AN_p (x_move rfl rfl) ?_
  have d32 := dBelow_lt b (dBelow b (dBelow b (dBelow b cc 8).2 4).2 2).2 (n := 6) (by decide)
  refine AN_p (x_call (ks := []) (L := [(200, some _)]) (L' := [(200, some _)]) rfl rfl rfl (below_c b (dBelow b (dBelow b (dBelow b cc 8).2 4).2 2).2 hb 6) rfl AllV.rf (caught_of rfl) rfl rfl rfl ⟨rfl, trivial⟩ rfl) ?_
  refine AN_p (x_assign rfl rfl) ?_
  refine AN_nil ?_
  refine AW_seq ?_
  refine AW_seq ?_
  refine AW_regionN ?_
  refine AN_p (x_move rfl rfl) ?_
  refine AN_b (x_eql rfl rfl rfl) (fun b34 h34 => ?_)
  refine AN_nil ?_
  cases b34
  · try simp only [tdy] at h34
    refine AW_condF rfl ?_
    refine AW_skip ?_
    refine AW_seq ?_
    refine AW_seq ?_
    refine AW_regionN ?_
    refine AN_p (x_move rfl rfl) ?_
    refine AN_b (x_eql rfl rfl rfl) (fun b48 h48 => ?_)
    refine AN_nil ?_
    cases b48
    · try simp only [tdy] at h48
      refine AW_condF rfl ?_
      refine AW_skip ?_
      refine AW_draw rfl ?_
      refine AL_p (x_field (off := 0) (o' := 0) rfl rfl rfl (by kernel_rfl) rfl) ?_
      refine AL_p (x_load1 rfl rfl rfl (by kernel_rfl) rfl) ?_
      refine AL_p (x_move rfl rfl) ?_
      refine AL_p (x_field (off := 0) (o' := 0) rfl rfl rfl (by kernel_rfl) rfl) ?_
      refine AL_p (x_load1 rfl rfl rfl (by kernel_rfl) rfl) ?_
      refine AL_p (x_move rfl rfl) ?_
      refine AL_p (x_oindex (n := 1) rfl rfl rfl rfl (by kernel_rfl) rfl (k := (1 + (dBelow b (dBelow b (dBelow b cc 8).2 4).2 2).1).toNat) (by omega) (by first | omega | (simp only [List.length_set]; omega) | (simp; omega))) ?_
      refine AL_p (x_oload1 rfl rfl rfl (by kernel_rfl) (by first | omega | (simp only [List.length_set]; omega) | (simp; omega)) rfl) ?_
      refine AL_p (x_field (off := 1) (o' := 1) rfl rfl rfl (by kernel_rfl) rfl) ?_
      refine AL_p (x_load1 rfl rfl rfl (by kernel_rfl) rfl) ?_
      refine AL_p (x_move rfl rfl) ?_
      refine AL_p (x_oindex (n := 1) rfl rfl rfl rfl (by kernel_rfl) rfl (k := (1 + (dBelow b (dBelow b (dBelow b cc 8).2 4).2 2).1).toNat) (by omega) (by first | omega | (simp only [List.length_set]; omega) | (simp; omega))) ?_
      refine AL_p (x_oload1 rfl rfl rfl (by kernel_rfl) (by first | omega | (simp only [List.length_set]; omega) | (simp; omega)) rfl) ?_
      refine AL_p (x_and rfl rfl rfl ) ?_
      refine AL_p (x_oindex (n := 1) rfl rfl rfl rfl (by kernel_rfl) rfl (k := (1 + (dBelow b (dBelow b (dBelow b cc 8).2 4).2 2).1).toNat) (by omega) (by first | omega | (simp only [List.length_set]; omega) | (simp; omega))) ?_
      refine AL_p (x_ostore (_) rfl rfl rfl rfl (by kernel_rfl) rfl rfl rfl rfl FitL.rf rfl rfl (by first | omega | (rw [filledTo_len (by omega)]; omega) | (simp; omega))) ?_
      refine AL_nild (by kernel_rfl) ?_
      refine AW_regionN ?_
      refine AN_p (x_move rfl rfl) ?_
      refine AN_p (x_sub rfl rfl rfl (IntWalk.i64_in _ (by omega))) ?_
      refine AN_p (x_assign rfl rfl) ?_
      refine AN_nil ?_
      refine ⟨⟨⟨_, _, _, _⟩, ?_⟩, rn [], by exact ⟨by (repeat refine ⟨⟨_, rfl, by first | exact VLe.rf | exact vle_int (by dsimp only; omega)⟩, ?_⟩); exact trivial, by (repeat refine ⟨⟨_, rfl, by first | exact BLe.rf | exact BLe.box AllC.rf | exact BLe.arr (by exact rfl)⟩, ?_⟩); exact trivial, by repeat (first | exact trivial | refine ⟨⟨rfl, by first | (left; intro h; cases h) | (right; rfl), by first | exact (fun _ h => ⟨_, h⟩) | exact (fun _ _ => ⟨_, rfl⟩)⟩, ?_⟩), rfl⟩, by dsimp only; omega⟩
      exact ⟨by simp only [List.length_set]; omega, by simp only [List.length_set]; omega, by dsimp only; omega⟩
    try simp only [tdy] at h48
    refine AW_condT rfl ?_
    refine AW_draw rfl ?_
    refine AL_p (x_field (off := 1) (o' := 1) rfl rfl rfl (by kernel_rfl) rfl) ?_
    refine AL_p (x_load1 rfl rfl rfl (by kernel_rfl) rfl) ?_
    refine AL_p (x_move rfl rfl) ?_
    refine AL_p (x_move rfl rfl) ?_
    have d53 := dBelow_lt b (dBelow b (dBelow b (dBelow b (dBelow b cc 8).2 4).2 2).2 6).2 (n := 3) (by decide)
    refine AL_p (x_call (ks := []) (L := [(200, some _)]) (L' := [(200, some _)]) rfl rfl rfl (below_c b (dBelow b (dBelow b (dBelow b (dBelow b cc 8).2 4).2 2).2 6).2 hb 3) rfl AllV.rf (caught_of rfl) rfl rfl rfl ⟨rfl, trivial⟩ rfl) ?_
    refine AL_p (x_shl rfl rfl rfl (by omega) rfl) ?_
    refine AL_p (x_oindex (n := 1) rfl rfl rfl rfl (by kernel_rfl) rfl (k := (1 + (dBelow b (dBelow b (dBelow b cc 8).2 4).2 2).1).toNat) (by omega) (by first | omega | (simp only [List.length_set]; omega) | (simp; omega))) ?_
    refine AL_p (x_ostore (_) rfl rfl rfl rfl (by kernel_rfl) rfl rfl rfl rfl FitL.rf rfl rfl (by first | omega | (rw [filledTo_len (by omega)]; omega) | (simp; omega))) ?_
    refine AL_nild (by kernel_rfl) ?_
    refine AW_draw rfl ?_
    refine AL_p (x_field (off := 0) (o' := 0) rfl rfl rfl (by kernel_rfl) rfl) ?_
    refine AL_p (x_load1 rfl rfl rfl (by kernel_rfl) rfl) ?_
    refine AL_p (x_move rfl rfl) ?_
    refine AL_p (x_field (off := 0) (o' := 0) rfl rfl rfl (by kernel_rfl) rfl) ?_
    refine AL_p (x_load1 rfl rfl rfl (by kernel_rfl) rfl) ?_
    refine AL_p (x_move rfl rfl) ?_
    refine AL_p (x_oindex (n := 1) rfl rfl rfl rfl (by kernel_rfl) rfl (k := (1 + (dBelow b (dBelow b (dBelow b cc 8).2 4).2 2).1).toNat) (by omega) (by first | omega | (simp only [List.length_set]; omega) | (simp; omega))) ?_
    refine AL_p (x_oload1 rfl rfl rfl (by kernel_rfl) (by first | omega | (simp only [List.length_set]; omega) | (simp; omega)) rfl) ?_
    refine AL_p (x_field (off := 1) (o' := 1) rfl rfl rfl (by kernel_rfl) rfl) ?_
    refine AL_p (x_load1 rfl rfl rfl (by kernel_rfl) rfl) ?_
    refine AL_p (x_move rfl rfl) ?_
    refine AL_p (x_oindex (n := 1) rfl rfl rfl rfl (by kernel_rfl) rfl (k := (1 + (dBelow b (dBelow b (dBelow b cc 8).2 4).2 2).1).toNat) (by omega) (by first | omega | (simp only [List.length_set]; omega) | (simp; omega))) ?_
    refine AL_p (x_oload1 rfl rfl rfl (by kernel_rfl) (by first | omega | (simp only [List.length_set]; omega) | (simp; omega)) rfl) ?_
    refine AL_p (x_and rfl rfl rfl ) ?_
    refine AL_p (x_oindex (n := 1) rfl rfl rfl rfl (by kernel_rfl) rfl (k := (1 + (dBelow b (dBelow b (dBelow b cc 8).2 4).2 2).1).toNat) (by omega) (by first | omega | (simp only [List.length_set]; omega) | (simp; omega))) ?_
    refine AL_p (x_ostore (_) rfl rfl rfl rfl (by kernel_rfl) rfl rfl rfl rfl FitL.rf rfl rfl (by first | omega | (rw [filledTo_len (by omega)]; omega) | (simp; omega))) ?_
    refine AL_nild (by kernel_rfl) ?_
    refine AW_regionN ?_
    refine AN_p (x_move rfl rfl) ?_
    refine AN_p (x_sub rfl rfl rfl (IntWalk.i64_in _ (by omega))) ?_
    refine AN_p (x_assign rfl rfl) ?_
    refine AN_nil ?_
    refine ⟨⟨⟨_, _, _, _⟩, ?_⟩, rn [], by exact ⟨by (repeat refine ⟨⟨_, rfl, by first | exact VLe.rf | exact vle_int (by dsimp only; omega)⟩, ?_⟩); exact trivial, by (repeat refine ⟨⟨_, rfl, by first | exact BLe.rf | exact BLe.box AllC.rf | exact BLe.arr (by exact rfl)⟩, ?_⟩); exact trivial, by repeat (first | exact trivial | refine ⟨⟨rfl, by first | (left; intro h; cases h) | (right; rfl), by first | exact (fun _ h => ⟨_, h⟩) | exact (fun _ _ => ⟨_, rfl⟩)⟩, ?_⟩), rfl⟩, by dsimp only; omega⟩
    exact ⟨by simp only [List.length_set]; omega, by simp only [List.length_set]; omega, by dsimp only; omega⟩
  try simp only [tdy] at h34
  refine AW_condT rfl ?_
  refine AW_draw rfl ?_
  refine AL_p (x_field (off := 1) (o' := 1) rfl rfl rfl (by kernel_rfl) rfl) ?_
  refine AL_p (x_load1 rfl rfl rfl (by kernel_rfl) rfl) ?_
  refine AL_p (x_move rfl rfl) ?_
  refine AL_p (x_field (off := 1) (o' := 1) rfl rfl rfl (by kernel_rfl) rfl) ?_
  refine AL_p (x_load1 rfl rfl rfl (by kernel_rfl) rfl) ?_
  refine AL_p (x_move rfl rfl) ?_
  refine AL_p (x_oindex (n := 1) rfl rfl rfl rfl (by kernel_rfl) rfl (k := (1 + (dBelow b (dBelow b (dBelow b cc 8).2 4).2 2).1).toNat) (by omega) (by first | omega | (simp only [List.length_set]; omega) | (simp; omega))) ?_
  refine AL_p (x_oload1 rfl rfl rfl (by kernel_rfl) (by first | omega | (simp only [List.length_set]; omega) | (simp; omega)) rfl) ?_
  refine AL_p (x_move rfl rfl) ?_
  have d44 := dBelow_lt b (dBelow b (dBelow b (dBelow b (dBelow b cc 8).2 4).2 2).2 6).2 (n := 8) (by decide)
  refine AL_p (x_call (ks := []) (L := [(200, some _)]) (L' := [(200, some _)]) rfl rfl rfl (below_c b (dBelow b (dBelow b (dBelow b (dBelow b cc 8).2 4).2 2).2 6).2 hb 8) rfl AllV.rf (caught_of rfl) rfl rfl rfl ⟨rfl, trivial⟩ rfl) ?_
  refine AL_p (x_sub rfl rfl rfl (r := w64 _) rfl) ?_
  refine AL_p (x_oindex (n := 1) rfl rfl rfl rfl (by kernel_rfl) rfl (k := (1 + (dBelow b (dBelow b (dBelow b cc 8).2 4).2 2).1).toNat) (by omega) (by first | omega | (simp only [List.length_set]; omega) | (simp; omega))) ?_
  refine AL_p (x_ostore (_) rfl rfl rfl rfl (by kernel_rfl) rfl rfl rfl rfl FitL.rf rfl rfl (by first | omega | (rw [filledTo_len (by omega)]; omega) | (simp; omega))) ?_
  refine AL_nild (by kernel_rfl) ?_
  refine AW_seq ?_
  refine AW_seq ?_
  refine AW_regionN ?_
  refine AN_p (x_move rfl rfl) ?_
  refine AN_b (x_eql rfl rfl rfl) (fun b48 h48 => ?_)
  refine AN_nil ?_
  cases b48
  · try simp only [tdy] at h48
    refine AW_condF rfl ?_
    refine AW_skip ?_
    refine AW_draw rfl ?_
    refine AL_p (x_field (off := 0) (o' := 0) rfl rfl rfl (by kernel_rfl) rfl) ?_
    refine AL_p (x_load1 rfl rfl rfl (by kernel_rfl) rfl) ?_
    refine AL_p (x_move rfl rfl) ?_
    refine AL_p (x_field (off := 0) (o' := 0) rfl rfl rfl (by kernel_rfl) rfl) ?_
    refine AL_p (x_load1 rfl rfl rfl (by kernel_rfl) rfl) ?_
    refine AL_p (x_move rfl rfl) ?_
    refine AL_p (x_oindex (n := 1) rfl rfl rfl rfl (by kernel_rfl) rfl (k := (1 + (dBelow b (dBelow b (dBelow b cc 8).2 4).2 2).1).toNat) (by omega) (by first | omega | (simp only [List.length_set]; omega) | (simp; omega))) ?_
    refine AL_p (x_oload1 rfl rfl rfl (by kernel_rfl) (by first | omega | (simp only [List.length_set]; omega) | (simp; omega)) rfl) ?_
    refine AL_p (x_field (off := 1) (o' := 1) rfl rfl rfl (by kernel_rfl) rfl) ?_
    refine AL_p (x_load1 rfl rfl rfl (by kernel_rfl) rfl) ?_
    refine AL_p (x_move rfl rfl) ?_
    refine AL_p (x_oindex (n := 1) rfl rfl rfl rfl (by kernel_rfl) rfl (k := (1 + (dBelow b (dBelow b (dBelow b cc 8).2 4).2 2).1).toNat) (by omega) (by first | omega | (simp only [List.length_set]; omega) | (simp; omega))) ?_
    refine AL_p (x_oload1 rfl rfl rfl (by kernel_rfl) (by first | omega | (simp only [List.length_set]; omega) | (simp; omega)) rfl) ?_
    refine AL_p (x_and rfl rfl rfl ) ?_
    refine AL_p (x_oindex (n := 1) rfl rfl rfl rfl (by kernel_rfl) rfl (k := (1 + (dBelow b (dBelow b (dBelow b cc 8).2 4).2 2).1).toNat) (by omega) (by first | omega | (simp only [List.length_set]; omega) | (simp; omega))) ?_
    refine AL_p (x_ostore (_) rfl rfl rfl rfl (by kernel_rfl) rfl rfl rfl rfl FitL.rf rfl rfl (by first | omega | (rw [filledTo_len (by omega)]; omega) | (simp; omega))) ?_
    refine AL_nild (by kernel_rfl) ?_
    refine AW_regionN ?_
    refine AN_p (x_move rfl rfl) ?_
    refine AN_p (x_sub rfl rfl rfl (IntWalk.i64_in _ (by omega))) ?_
    refine AN_p (x_assign rfl rfl) ?_
    refine AN_nil ?_
    refine ⟨⟨⟨_, _, _, _⟩, ?_⟩, rn [], by exact ⟨by (repeat refine ⟨⟨_, rfl, by first | exact VLe.rf | exact vle_int (by dsimp only; omega)⟩, ?_⟩); exact trivial, by (repeat refine ⟨⟨_, rfl, by first | exact BLe.rf | exact BLe.box AllC.rf | exact BLe.arr (by exact rfl)⟩, ?_⟩); exact trivial, by repeat (first | exact trivial | refine ⟨⟨rfl, by first | (left; intro h; cases h) | (right; rfl), by first | exact (fun _ h => ⟨_, h⟩) | exact (fun _ _ => ⟨_, rfl⟩)⟩, ?_⟩), rfl⟩, by dsimp only; omega⟩
    exact ⟨by simp only [List.length_set]; omega, by simp only [List.length_set]; omega, by dsimp only; omega⟩
  try simp only [tdy] at h48
  refine AW_condT rfl ?_
  refine AW_draw rfl ?_
  refine AL_p (x_field (off := 1) (o' := 1) rfl rfl rfl (by kernel_rfl) rfl) ?_
  refine AL_p (x_load1 rfl rfl rfl (by kernel_rfl) rfl) ?_
  refine AL_p (x_move rfl rfl) ?_
  refine AL_p (x_move rfl rfl) ?_
  have d53 := dBelow_lt b (dBelow b (dBelow b (dBelow b (dBelow b (dBelow b cc 8).2 4).2 2).2 6).2 8).2 (n := 3) (by decide)
  refine AL_p (x_call (ks := []) (L := [(200, some _)]) (L' := [(200, some _)]) rfl rfl rfl (below_c b (dBelow b (dBelow b (dBelow b (dBelow b (dBelow b cc 8).2 4).2 2).2 6).2 8).2 hb 3) rfl AllV.rf (caught_of rfl) rfl rfl rfl ⟨rfl, trivial⟩ rfl) ?_
  refine AL_p (x_shl rfl rfl rfl (by omega) rfl) ?_
  refine AL_p (x_oindex (n := 1) rfl rfl rfl rfl (by kernel_rfl) rfl (k := (1 + (dBelow b (dBelow b (dBelow b cc 8).2 4).2 2).1).toNat) (by omega) (by first | omega | (simp only [List.length_set]; omega) | (simp; omega))) ?_
  refine AL_p (x_ostore (_) rfl rfl rfl rfl (by kernel_rfl) rfl rfl rfl rfl FitL.rf rfl rfl (by first | omega | (rw [filledTo_len (by omega)]; omega) | (simp; omega))) ?_
  refine AL_nild (by kernel_rfl) ?_
  refine AW_draw rfl ?_
  refine AL_p (x_field (off := 0) (o' := 0) rfl rfl rfl (by kernel_rfl) rfl) ?_
  refine AL_p (x_load1 rfl rfl rfl (by kernel_rfl) rfl) ?_
  refine AL_p (x_move rfl rfl) ?_
  refine AL_p (x_field (off := 0) (o' := 0) rfl rfl rfl (by kernel_rfl) rfl) ?_
  refine AL_p (x_load1 rfl rfl rfl (by kernel_rfl) rfl) ?_
  refine AL_p (x_move rfl rfl) ?_
  refine AL_p (x_oindex (n := 1) rfl rfl rfl rfl (by kernel_rfl) rfl (k := (1 + (dBelow b (dBelow b (dBelow b cc 8).2 4).2 2).1).toNat) (by omega) (by first | omega | (simp only [List.length_set]; omega) | (simp; omega))) ?_
  refine AL_p (x_oload1 rfl rfl rfl (by kernel_rfl) (by first | omega | (simp only [List.length_set]; omega) | (simp; omega)) rfl) ?_
  refine AL_p (x_field (off := 1) (o' := 1) rfl rfl rfl (by kernel_rfl) rfl) ?_
  refine AL_p (x_load1 rfl rfl rfl (by kernel_rfl) rfl) ?_
  refine AL_p (x_move rfl rfl) ?_
  refine AL_p (x_oindex (n := 1) rfl rfl rfl rfl (by kernel_rfl) rfl (k := (1 + (dBelow b (dBelow b (dBelow b cc 8).2 4).2 2).1).toNat) (by omega) (by first | omega | (simp only [List.length_set]; omega) | (simp; omega))) ?_
  refine AL_p (x_oload1 rfl rfl rfl (by kernel_rfl) (by first | omega | (simp only [List.length_set]; omega) | (simp; omega)) rfl) ?_
  refine AL_p (x_and rfl rfl rfl ) ?_
  refine AL_p (x_oindex (n := 1) rfl rfl rfl rfl (by kernel_rfl) rfl (k := (1 + (dBelow b (dBelow b (dBelow b cc 8).2 4).2 2).1).toNat) (by omega) (by first | omega | (simp only [List.length_set]; omega) | (simp; omega))) ?_
  refine AL_p (x_ostore (_) rfl rfl rfl rfl (by kernel_rfl) rfl rfl rfl rfl FitL.rf rfl rfl (by first | omega | (rw [filledTo_len (by omega)]; omega) | (simp; omega))) ?_
  refine AL_nild (by kernel_rfl) ?_
  refine AW_regionN ?_
  refine AN_p (x_move rfl rfl) ?_
  refine AN_p (x_sub rfl rfl rfl (IntWalk.i64_in _ (by omega))) ?_
  refine AN_p (x_assign rfl rfl) ?_
  refine AN_nil ?_
  refine ⟨⟨⟨_, _, _, _⟩, ?_⟩, rn [], by exact ⟨by (repeat refine ⟨⟨_, rfl, by first | exact VLe.rf | exact vle_int (by dsimp only; omega)⟩, ?_⟩); exact trivial, by (repeat refine ⟨⟨_, rfl, by first | exact BLe.rf | exact BLe.box AllC.rf | exact BLe.arr (by exact rfl)⟩, ?_⟩); exact trivial, by repeat (first | exact trivial | refine ⟨⟨rfl, by first | (left; intro h; cases h) | (right; rfl), by first | exact (fun _ h => ⟨_, h⟩) | exact (fun _ _ => ⟨_, rfl⟩)⟩, ?_⟩), rfl⟩, by dsimp only; omega⟩
  exact ⟨by simp only [List.length_set]; omega, by simp only [List.length_set]; omega, by dsimp only; omega⟩

set_option maxHeartbeats 4000000 in
theorem anyMatch_x (b : List Int) (c : Cur) (hb : b.length ≤ 1048576) : AX Try.prog 134 [.one (.ptr 200 0)] [(200, some (curB b c))] (ι := (List Int × List Int) × Cur) (fun i => i.1.1.length ≤ 9 ∧ i.1.2.length ≤ 9) (fun i => .agg [.sl (intE .i64) i.1.1, .sl (intE .i64) i.1.2]) (fun i => [(200, some (curB b i.2))]) := by
  refine AX_bodyC (n := 2) (k := 9) (cs := fun (i : (List Int × List Int) × Cur) => [.sl (intE .i64) i.1.1, .sl (intE .i64) i.1.2]) (T := fun (_ : (List Int × List Int) × Cur) => [(2, .one (.ptr 9 0))]) (Lf := fun (i : (List Int × List Int) × Cur) => ((9, some (.box [.sl (intE .i64) i.1.1, .sl (intE .i64) i.1.2])) :: [(200, some (curB b i.2))])) (L' := fun (i : (List Int × List Int) × Cur) => [(200, some (curB b i.2))]) Try.func134 rfl rfl Try.ntmps134 rfl Try.results134 (fun _ => rfl) (fun _ => rfl) (by kernel_rfl) (fun _ => rfl) (fun _ => rfl) (fun (_ : (List Int × List Int) × Cur) => ⟨trivial, (by repeat (first | exact trivial | refine ⟨⟨_, rfl, BLe.rf⟩, ?_⟩)), (by repeat (first | exact trivial | refine ⟨⟨rfl, by first | (left; intro h; cases h) | (right; rfl), by first | exact (fun _ h => ⟨_, h⟩) | exact (fun _ _ => ⟨_, rfl⟩)⟩, ?_⟩)), rfl⟩) ?_
  refine AW_seq ?_
  refine AW_regionN ?_
  refine AN_p (x_alloc (z := .agg #[.slice none 0 0, .slice none 0 0]) 100 rfl (by kernel_rfl) rfl rfl rfl rfl) ?_
  refine AN_nil ?_
  refine AW_seq ?_
  refine AW_regionN ?_
  refine AN_p (x_move rfl rfl) ?_
  refine AN_x (L := [(200, some (curB b c))]) rfl rfl rfl (match_x b c hb) rfl rfl (fun _ => rfl) (fun _ => rfl) ⟨rfl, trivial⟩ (fun _ => rfl) ?_
  rintro ⟨x7, c7⟩ g7
  dsimp only at g7 ⊢
  obtain ⟨ga7, gb7⟩ := g7
  obtain ⟨xv, xm⟩ := x7
  dsimp only at ga7 gb7 ⊢
  refine AN_p (x_alloc (z := .agg #[.slice none 0 0, .slice none 0 0]) 101 rfl (by kernel_rfl) rfl rfl rfl rfl) ?_
  refine AN_p (x_store (n := 2) rfl rfl rfl rfl (by kernel_rfl) rfl rfl rfl) ?_
  refine AN_nil ?_
  refine AW_seq ?_
  refine AW_regionN ?_
  refine AN_p (x_move rfl rfl) ?_
  have d9 := dBelow_lt b c7 (n := 8) (by decide)
  refine AN_p (x_call (ks := []) (L := [(200, some _)]) (L' := [(200, some _)]) rfl rfl rfl (below_c b c7 hb 8) rfl AllV.rf (caught_of rfl) rfl rfl rfl ⟨rfl, trivial⟩ rfl) ?_
  refine AN_p (x_assign rfl rfl) ?_
  refine AN_nil ?_
  refine AW_seq ?_
  refine AW_regionN ?_
  refine AN_p (x_move rfl rfl) ?_
  have d11 := dBelow_lt b (dBelow b c7 8).2 (n := 16) (by decide)
  refine AN_p (x_call (ks := []) (L := [(200, some _)]) (L' := [(200, some _)]) rfl rfl rfl (below_c b (dBelow b c7 8).2 hb 16) rfl AllV.rf (caught_of rfl) rfl rfl rfl ⟨rfl, trivial⟩ rfl) ?_
  refine AN_p (x_assign rfl rfl) ?_
  refine AN_nil ?_
  refine AW_seq ?_
  refine AW_seq ?_
  refine AW_regionN ?_
  refine AN_p (x_move rfl rfl) ?_
  refine AN_b (x_eql rfl rfl rfl) (fun b13 h13 => ?_)
  refine AN_nil ?_
  cases b13
  rotate_left
  · try simp only [tdy] at h13
    refine AW_condT rfl ?_
    refine AW_draw rfl ?_
    refine AL_p (x_field (off := 1) (o' := 1) rfl rfl rfl (by kernel_rfl) rfl) ?_
    refine AL_p (x_load1 rfl rfl rfl (by kernel_rfl) rfl) ?_
    refine AL_p (x_move rfl rfl) ?_
    refine AL_p (x_move rfl rfl) ?_
    refine AL_p (x_call (ks := []) (L := [(200, some _)]) (L' := [(200, some _)]) rfl rfl rfl (raw_c b (dBelow b (dBelow b c7 8).2 16).2 hb) rfl AllV.rf (caught_of rfl) rfl rfl rfl ⟨rfl, trivial⟩ rfl) ?_
    refine AL_p (x_oindex (n := 1) rfl rfl rfl rfl (by kernel_rfl) rfl (k := (dBelow b c7 8).1.toNat) (by omega) (by first | omega | (simp only [List.length_set]; omega) | (simp; omega))) ?_
    refine AL_p (x_ostore (_) rfl rfl rfl rfl (by kernel_rfl) rfl rfl rfl rfl FitL.rf rfl rfl (by first | omega | (rw [filledTo_len (by omega)]; omega) | (simp; omega))) ?_
    refine AL_nild (by kernel_rfl) ?_
    refine AW_seq ?_
    refine AW_seq ?_
    refine AW_regionN ?_
    refine AN_p (x_move rfl rfl) ?_
    refine AN_b (x_eql rfl rfl rfl) (fun b21 h21 => ?_)
    refine AN_nil ?_
    cases b21
    rotate_left
    · exfalso; simp at h21; omega
    try simp only [tdy] at h21
    refine AW_condF rfl ?_
    refine AW_skip ?_
    refine AW_seq ?_
    refine AW_seq ?_
    refine AW_regionN ?_
    refine AN_p (x_move rfl rfl) ?_
    refine AN_b (x_eql rfl rfl rfl) (fun b29 h29 => ?_)
    refine AN_nil ?_
    cases b29
    rotate_left
    · exfalso; simp at h29; omega
    try simp only [tdy] at h29
    refine AW_condF rfl ?_
    refine AW_skip ?_
    refine AW_seq ?_
    refine AW_seq ?_
    refine AW_regionN ?_
    refine AN_p (x_move rfl rfl) ?_
    refine AN_b (x_eql rfl rfl rfl) (fun b36 h36 => ?_)
    refine AN_nil ?_
    cases b36
    rotate_left
    · exfalso; simp at h36; omega
    try simp only [tdy] at h36
    refine AW_condF rfl ?_
    refine AW_skip ?_
    refine AW_seq ?_
    refine AW_regionN ?_
    refine AN_p (x_loadN (n := 2) rfl rfl rfl (by kernel_rfl) rfl rfl) ?_
    refine AN_p (x_store (n := 2) rfl rfl rfl rfl (by kernel_rfl) rfl rfl rfl) ?_
    refine AN_nil ?_
    refine AW_shutB 301 100 0 rfl rfl rfl rfl ?_
    refine AW_shutB 302 100 1 rfl rfl rfl rfl ?_
    refine AW_ret ?_
    refine ⟨⟨⟨_, _⟩, _⟩, ?_, rn [(9, 100)], by exact ⟨⟨⟨_, rfl, VLe.rf⟩, trivial⟩, ⟨⟨_, rfl, by first | exact BLe.rf | exact BLe.box (by repeat (first | exact trivial | refine ⟨by first | exact CLe.rf | exact CLe.nil, ?_⟩))⟩, ⟨_, rfl, BLe.rf⟩, trivial⟩, by repeat (first | exact trivial | refine ⟨⟨rfl, by first | (left; intro h; cases h) | (right; rfl), by first | exact (fun _ h => ⟨_, h⟩) | exact (fun _ _ => ⟨_, rfl⟩)⟩, ?_⟩), rfl⟩⟩
    exact ⟨by first | (dsimp only; omega) | (simp; omega), by first | (dsimp only; omega) | (simp; omega)⟩
  try simp only [tdy] at h13
  refine AW_condF rfl ?_
  refine AW_skip ?_
  refine AW_seq ?_
  refine AW_seq ?_
  refine AW_regionN ?_
  refine AN_p (x_move rfl rfl) ?_
  refine AN_b (x_eql rfl rfl rfl) (fun b21 h21 => ?_)
  refine AN_nil ?_
  cases b21
  rotate_left
  · try simp only [tdy] at h21
    refine AW_condT rfl ?_
    refine AW_draw rfl ?_
    refine AL_p (x_field (off := 0) (o' := 0) rfl rfl rfl (by kernel_rfl) rfl) ?_
    refine AL_p (x_load1 rfl rfl rfl (by kernel_rfl) rfl) ?_
    refine AL_p (x_move rfl rfl) ?_
    refine AL_p (x_move rfl rfl) ?_
    refine AL_p (x_call (ks := []) (L := [(200, some _)]) (L' := [(200, some _)]) rfl rfl rfl (raw_c b (dBelow b (dBelow b c7 8).2 16).2 hb) rfl AllV.rf (caught_of rfl) rfl rfl rfl ⟨rfl, trivial⟩ rfl) ?_
    refine AL_p (x_oindex (n := 1) rfl rfl rfl rfl (by kernel_rfl) rfl (k := (dBelow b c7 8).1.toNat) (by omega) (by first | omega | (simp only [List.length_set]; omega) | (simp; omega))) ?_
    refine AL_p (x_ostore (_) rfl rfl rfl rfl (by kernel_rfl) rfl rfl rfl rfl FitL.rf rfl rfl (by first | omega | (rw [filledTo_len (by omega)]; omega) | (simp; omega))) ?_
    refine AL_nild (by kernel_rfl) ?_
    refine AW_seq ?_
    refine AW_seq ?_
    refine AW_regionN ?_
    refine AN_p (x_move rfl rfl) ?_
    refine AN_b (x_eql rfl rfl rfl) (fun b29 h29 => ?_)
    refine AN_nil ?_
    cases b29
    rotate_left
    · exfalso; simp at h29; omega
    try simp only [tdy] at h29
    refine AW_condF rfl ?_
    refine AW_skip ?_
    refine AW_seq ?_
    refine AW_seq ?_
    refine AW_regionN ?_
    refine AN_p (x_move rfl rfl) ?_
    refine AN_b (x_eql rfl rfl rfl) (fun b36 h36 => ?_)
    refine AN_nil ?_
    cases b36
    rotate_left
    · exfalso; simp at h36; omega
    try simp only [tdy] at h36
    refine AW_condF rfl ?_
    refine AW_skip ?_
    refine AW_seq ?_
    refine AW_regionN ?_
    refine AN_p (x_loadN (n := 2) rfl rfl rfl (by kernel_rfl) rfl rfl) ?_
    refine AN_p (x_store (n := 2) rfl rfl rfl rfl (by kernel_rfl) rfl rfl rfl) ?_
    refine AN_nil ?_
    refine AW_shutB 301 100 0 rfl rfl rfl rfl ?_
    refine AW_shutB 302 100 1 rfl rfl rfl rfl ?_
    refine AW_ret ?_
    refine ⟨⟨⟨_, _⟩, _⟩, ?_, rn [(9, 100)], by exact ⟨⟨⟨_, rfl, VLe.rf⟩, trivial⟩, ⟨⟨_, rfl, by first | exact BLe.rf | exact BLe.box (by repeat (first | exact trivial | refine ⟨by first | exact CLe.rf | exact CLe.nil, ?_⟩))⟩, ⟨_, rfl, BLe.rf⟩, trivial⟩, by repeat (first | exact trivial | refine ⟨⟨rfl, by first | (left; intro h; cases h) | (right; rfl), by first | exact (fun _ h => ⟨_, h⟩) | exact (fun _ _ => ⟨_, rfl⟩)⟩, ?_⟩), rfl⟩⟩
    exact ⟨by first | (dsimp only; omega) | (simp; omega), by first | (dsimp only; omega) | (simp; omega)⟩
  try simp only [tdy] at h21
  refine AW_condF rfl ?_
  refine AW_skip ?_
  refine AW_seq ?_
  refine AW_seq ?_
  refine AW_regionN ?_
  refine AN_p (x_move rfl rfl) ?_
  refine AN_b (x_eql rfl rfl rfl) (fun b29 h29 => ?_)
  refine AN_nil ?_
  cases b29
  rotate_left
  · try simp only [tdy] at h29
    refine AW_condT rfl ?_
    refine AW_shutB 301 101 0 rfl rfl rfl rfl ?_
    refine AW_regionN ?_
    refine AN_p (x_field (off := 0) (o' := 0) rfl rfl rfl (by kernel_rfl) rfl) ?_
    refine AN_p (x_load1 rfl rfl rfl (by kernel_rfl) rfl) ?_
    refine AN_p (x_move rfl rfl) ?_
    refine AN_p (x_slice (E := 3) (n := 1) rfl rfl (by kernel_rfl) rfl .no (.yes (l := (dBelow b c7 8).1.toNat) rfl (by omega)) (by omega) (by first | exact Nat.le_refl _ | omega) rfl) ?_
    refine AN_p (x_field (off := 0) (o' := 0) rfl rfl rfl (by kernel_rfl) rfl) ?_
    refine AN_p (x_store (n := 1) rfl rfl rfl rfl (by kernel_rfl) rfl rfl rfl) ?_
    refine AN_nil ?_
    refine AW_seq ?_
    refine AW_seq ?_
    refine AW_regionN ?_
    refine AN_p (x_move rfl rfl) ?_
    refine AN_b (x_eql rfl rfl rfl) (fun b36 h36 => ?_)
    refine AN_nil ?_
    cases b36
    rotate_left
    · exfalso; simp at h36; omega
    try simp only [tdy] at h36
    refine AW_condF rfl ?_
    refine AW_skip ?_
    refine AW_seq ?_
    refine AW_regionN ?_
    refine AN_p (x_loadN (n := 2) rfl rfl rfl (by kernel_rfl) rfl rfl) ?_
    refine AN_p (x_store (n := 2) rfl rfl rfl rfl (by kernel_rfl) rfl rfl rfl) ?_
    refine AN_nil ?_
    refine AW_shutB 302 100 1 rfl rfl rfl rfl ?_
    refine AW_ret ?_
    refine ⟨⟨⟨_, _⟩, _⟩, ?_, rn [(9, 100)], by exact ⟨⟨⟨_, rfl, VLe.rf⟩, trivial⟩, ⟨⟨_, rfl, by first | exact BLe.rf | exact BLe.box (by repeat (first | exact trivial | refine ⟨by first | exact CLe.rf | exact CLe.nil, ?_⟩))⟩, ⟨_, rfl, BLe.rf⟩, trivial⟩, by repeat (first | exact trivial | refine ⟨⟨rfl, by first | (left; intro h; cases h) | (right; rfl), by first | exact (fun _ h => ⟨_, h⟩) | exact (fun _ _ => ⟨_, rfl⟩)⟩, ?_⟩), rfl⟩⟩
    exact ⟨by first | (dsimp only; omega) | (simp; omega), by first | (dsimp only; omega) | (simp; omega)⟩
  try simp only [tdy] at h29
  refine AW_condF rfl ?_
  refine AW_skip ?_
  refine AW_seq ?_
  refine AW_seq ?_
  refine AW_regionN ?_
  refine AN_p (x_move rfl rfl) ?_
  refine AN_b (x_eql rfl rfl rfl) (fun b36 h36 => ?_)
  refine AN_nil ?_
  cases b36
  · try simp only [tdy] at h36
    refine AW_condF rfl ?_
    refine AW_skip ?_
    refine AW_seq ?_
    refine AW_regionN ?_
    refine AN_p (x_loadN (n := 2) rfl rfl rfl (by kernel_rfl) rfl rfl) ?_
    refine AN_p (x_store (n := 2) rfl rfl rfl rfl (by kernel_rfl) rfl rfl rfl) ?_
    refine AN_nil ?_
    refine AW_shutB 301 100 0 rfl rfl rfl rfl ?_
    refine AW_shutB 302 100 1 rfl rfl rfl rfl ?_
    refine AW_ret ?_
    refine ⟨⟨⟨_, _⟩, _⟩, ?_, rn [(9, 100)], by exact ⟨⟨⟨_, rfl, VLe.rf⟩, trivial⟩, ⟨⟨_, rfl, by first | exact BLe.rf | exact BLe.box (by repeat (first | exact trivial | refine ⟨by first | exact CLe.rf | exact CLe.nil, ?_⟩))⟩, ⟨_, rfl, BLe.rf⟩, trivial⟩, by repeat (first | exact trivial | refine ⟨⟨rfl, by first | (left; intro h; cases h) | (right; rfl), by first | exact (fun _ h => ⟨_, h⟩) | exact (fun _ _ => ⟨_, rfl⟩)⟩, ?_⟩), rfl⟩⟩
    exact ⟨by first | (dsimp only; omega) | (simp; omega), by first | (dsimp only; omega) | (simp; omega)⟩
  try simp only [tdy] at h36
  refine AW_condT rfl ?_
  refine AW_regionN ?_
  refine AN_p (x_field (off := 1) (o' := 1) rfl rfl rfl (by kernel_rfl) rfl) ?_
  refine AN_p (x_load1 rfl rfl rfl (by kernel_rfl) rfl) ?_
  refine AN_p (y_bslice (E := 3) (e := (intE .i64)) [.const (.int .i64 (0))] ([0]) 102 rfl rfl rfl rfl rfl rfl rfl rfl FitL.rf rfl rfl rfl rfl rfl rfl (by kernel_rfl)) ?_
  refine AN_p (y_append 103 rfl rfl rfl rfl rfl rfl rfl rfl (by kernel_rfl) (by simp; omega)) ?_
  refine AN_p (x_field (off := 1) (o' := 1) rfl rfl rfl (by kernel_rfl) rfl) ?_
  refine AN_p (x_store (n := 1) rfl rfl rfl rfl (by kernel_rfl) rfl rfl rfl) ?_
  refine AN_nil ?_
  refine AW_seq ?_
  refine AW_regionN ?_
  refine AN_p (x_loadN (n := 2) rfl rfl rfl (by kernel_rfl) rfl rfl) ?_
  refine AN_p (x_store (n := 2) rfl rfl rfl rfl (by kernel_rfl) rfl rfl rfl) ?_
  refine AN_nil ?_
  refine AW_shutB 301 100 0 rfl rfl rfl rfl ?_
  refine AW_shutB 103 100 1 rfl rfl rfl rfl ?_
  refine AW_ret ?_
  refine ⟨⟨⟨_, _⟩, _⟩, ?_, rn [(9, 100)], by exact ⟨⟨⟨_, rfl, VLe.rf⟩, trivial⟩, ⟨⟨_, rfl, by first | exact BLe.rf | exact BLe.box (by repeat (first | exact trivial | refine ⟨by first | exact CLe.rf | exact CLe.nil, ?_⟩))⟩, ⟨_, rfl, BLe.rf⟩, trivial⟩, by repeat (first | exact trivial | refine ⟨⟨rfl, by first | (left; intro h; cases h) | (right; rfl), by first | exact (fun _ h => ⟨_, h⟩) | exact (fun _ _ => ⟨_, rfl⟩)⟩, ?_⟩), rfl⟩⟩
  exact ⟨by first | (dsimp only; omega) | (simp; omega), by first | (dsimp only; omega) | (simp; omega)⟩

set_option maxHeartbeats 4000000 in
theorem acts_x (b : List Int) (c : Cur) (hb : b.length ≤ 1048576) : AX Try.prog 146 [.one (.ptr 200 0)] [(200, some (curB b c))] (ι := List Actt × Cur) (fun i => i.1.length ≤ 13) (fun i => .one (.own 303)) (fun i => [(200, some (curB b i.2)), (303, some (.arr 114 actE i.1 true))]) := by
  refine AX_body1 (x := fun (i : List Actt × Cur) => .one (.own 303)) (L' := fun (i : List Actt × Cur) => [(200, some (curB b i.2)), (303, some (.arr 114 actE i.1 true))]) Try.func146 rfl rfl Try.ntmps146 rfl Try.results146 ?_
  refine AW_seq ?_
  refine AW_regionN ?_
  refine AN_p (x_assign rfl rfl) ?_
  refine AN_nil ?_
  refine AW_seq ?_
  refine AW_regionN ?_
  refine AN_p (y_bslice0 (E := 114) (e := actE) 100 rfl rfl rfl (by kernel_rfl)) ?_
  refine AN_p (x_assign rfl rfl) ?_
  refine AN_nil ?_
  refine AW_seq ?_
  refine AW_seq ?_
  refine AW_regionN ?_
  refine AN_p (x_move rfl rfl) ?_
  have d9 := dBelow_lt b c (n := 5) (by decide)
  refine AN_p (x_call (ks := []) (L := [(200, some _)]) (L' := [(200, some _)]) rfl rfl rfl (below_c b c hb 5) rfl AllV.rf (caught_of rfl) rfl rfl rfl ⟨rfl, trivial⟩ rfl) ?_
  refine AN_p (x_assign rfl rfl) ?_
  refine AN_nil ?_
  refine AW_block ?_
  refine AW_loop2 (ι := {q : Int × List Actt × Cur // ((q.2.1).length : Int) + max (q.1) 0 ≤ 4}) (fun p => [(3, .one (.own 100)), (4, .one (.c (.int .i64 (p.1.1))))]) (fun p => [(100, some (.arr 114 actE (p.1.2.1) true)), (200, some (curB b (p.1.2.2)))]) [0] [] (fun p => (p.1.1).toNat) ⟨⟨(dBelow b c 5).1, [], (dBelow b c 5).2⟩, (by simp; omega)⟩ (rn []) ?_ ?_
  exact ⟨by (repeat refine ⟨⟨_, rfl, by first | exact VLe.rf | exact vle_int (by dsimp only; omega)⟩, ?_⟩); exact trivial, by (repeat refine ⟨⟨_, rfl, by first | exact BLe.rf | exact BLe.box AllC.rf | exact BLe.arr (by exact rfl)⟩, ?_⟩); exact trivial, by repeat (first | exact trivial | refine ⟨⟨rfl, by first | (left; intro h; cases h) | (right; rfl), by first | exact (fun _ h => ⟨_, h⟩) | exact (fun _ _ => ⟨_, rfl⟩)⟩, ?_⟩), rfl⟩
  rintro ⟨⟨n, l, cc⟩, hinv⟩
  dsimp only
  have hl : (l.length : Int) + max n 0 ≤ 4 := hinv
  refine AW_seq ?_
  refine AW_seq ?_
  refine AW_regionN ?_
  refine AN_p (x_move rfl rfl) ?_
  refine AN_b (x_gtr rfl rfl rfl) (fun b11 h11 => ?_)
  refine AN_nil ?_
  cases b11
  · try simp only [tdy] at h11
    refine AW_condF rfl ?_
    refine AW_exit (BQ_hit ?_)
    refine AW_seq ?_
    refine AW_seq ?_
    refine AW_regionN ?_
    refine AN_p (x_move rfl rfl) ?_
    have d39 := dBelow_lt b cc (n := 25) (by decide)
    refine AN_p (x_call (ks := []) (L := [(200, some _)]) (L' := [(200, some _)]) rfl rfl rfl (below_c b cc hb 25) rfl AllV.rf (caught_of rfl) rfl rfl rfl ⟨rfl, trivial⟩ rfl) ?_
    refine AN_b (x_eql rfl rfl rfl) (fun b40 h40 => ?_)
    refine AN_nil ?_
    cases b40
    · try simp only [tdy] at h40
      refine AW_condF rfl ?_
      refine AW_skip ?_
      refine AW_seq ?_
      refine AW_regionN ?_
      refine AN_p (x_move rfl rfl) ?_
      refine AN_p (x_assign rfl rfl) ?_
      refine AN_nil ?_
      refine AW_ret ?_
      refine ⟨⟨_, _⟩, ?_, rn [(303, 100)], by exact ⟨⟨⟨_, rfl, VLe.rf⟩, trivial⟩, ⟨⟨_, rfl, BLe.rf⟩, ⟨_, rfl, BLe.rf⟩, trivial⟩, by repeat (first | exact trivial | refine ⟨⟨rfl, by first | (left; intro h; cases h) | (right; rfl), by first | exact (fun _ h => ⟨_, h⟩) | exact (fun _ _ => ⟨_, rfl⟩)⟩, ?_⟩), rfl⟩⟩
      dsimp only; omega
    try simp only [tdy] at h40
    refine AW_condT rfl ?_
    refine AW_block ?_
    refine AW_loop2 (ι := {q : List Actt × Cur // (q.1).length ≤ 13}) (fun p => [(3, .one (.own 100))]) (fun p => [(100, some (.arr 114 actE (p.1.1) true)), (200, some (curB b (p.1.2)))]) [0] [] (fun p => 14 - (p.1.1).length) ⟨⟨l, (dBelow b cc 25).2⟩, (by dsimp only; omega)⟩ (rn []) ?_ ?_
    exact ⟨by (repeat refine ⟨⟨_, rfl, by first | exact VLe.rf | exact vle_int (by dsimp only; omega)⟩, ?_⟩); exact trivial, by (repeat refine ⟨⟨_, rfl, by first | exact BLe.rf | exact BLe.box AllC.rf | exact BLe.arr (by exact rfl)⟩, ?_⟩); exact trivial, by repeat (first | exact trivial | refine ⟨⟨rfl, by first | (left; intro h; cases h) | (right; rfl), by first | exact (fun _ h => ⟨_, h⟩) | exact (fun _ _ => ⟨_, rfl⟩)⟩, ?_⟩), rfl⟩
    rintro ⟨⟨l, cc⟩, hinv⟩
    dsimp only
    have hl : l.length ≤ 13 := hinv
    refine AW_seq ?_
    refine AW_seq ?_
    refine AW_regionN ?_
    refine AN_p (x_move rfl rfl) ?_
    refine AN_p (x_olen (E := 114) (n := 3) rfl rfl rfl (by kernel_rfl)) ?_
    refine AN_p (x_move rfl rfl) ?_
    have d44 := dBelow_lt b cc (n := 2) (by decide)
    refine AN_p (x_call (ks := []) (L := [(200, some _)]) (L' := [(200, some _)]) rfl rfl rfl (below_c b cc hb 2) rfl AllV.rf (caught_of rfl) rfl rfl rfl ⟨rfl, trivial⟩ rfl) ?_
    refine AN_p (x_add rfl rfl rfl (IntWalk.i64_in _ (by omega))) ?_
    refine AN_b (x_lss rfl rfl rfl) (fun b46 h46 => ?_)
    refine AN_nil ?_
    cases b46
    · try simp only [tdy] at h46
      refine AW_condF rfl ?_
      refine AW_exit (BQ_hit ?_)
      refine AW_seq ?_
      refine AW_regionN ?_
      refine AN_p (x_move rfl rfl) ?_
      refine AN_p (x_assign rfl rfl) ?_
      refine AN_nil ?_
      refine AW_ret ?_
      refine ⟨⟨_, _⟩, ?_, rn [(303, 100)], by exact ⟨⟨⟨_, rfl, VLe.rf⟩, trivial⟩, ⟨⟨_, rfl, BLe.rf⟩, ⟨_, rfl, BLe.rf⟩, trivial⟩, by repeat (first | exact trivial | refine ⟨⟨rfl, by first | (left; intro h; cases h) | (right; rfl), by first | exact (fun _ h => ⟨_, h⟩) | exact (fun _ _ => ⟨_, rfl⟩)⟩, ?_⟩), rfl⟩⟩
      dsimp only; omega
    try simp only [tdy] at h46
    refine AW_condT rfl ?_
    refine AW_skip ?_
    refine AW_block ?_
    refine AW_regionN ?_
    refine AN_p (x_move rfl rfl) ?_
    refine AN_p (x_build (zs := [.int .i64 0, .int .i64 0, .int .i64 0]) (places := [(0, 1), (1, 1), (2, 1)]) rfl (by kernel_rfl) rfl rfl rfl rfl rfl) ?_
    refine AN_p (y_bslice (E := 114) (e := actE) [.tmp 48] ([⟨2, 0, 0⟩]) 104 rfl rfl rfl rfl rfl rfl rfl rfl FitL.rf rfl rfl rfl rfl rfl rfl (by kernel_rfl)) ?_
    refine AN_p (y_append 105 rfl rfl rfl rfl rfl rfl rfl rfl (by kernel_rfl) (by simp; omega)) ?_
    refine AN_p (x_assign rfl rfl) ?_
    refine AN_nil ?_
    refine ⟨⟨⟨_, _⟩, ?_⟩, rn [(100, 105)], by exact ⟨by (repeat refine ⟨⟨_, rfl, by first | exact VLe.rf | exact vle_int (by dsimp only; omega)⟩, ?_⟩); exact trivial, by (repeat refine ⟨⟨_, rfl, by first | exact BLe.rf | exact BLe.box AllC.rf | exact BLe.arr (by exact rfl)⟩, ?_⟩); exact trivial, by repeat (first | exact trivial | refine ⟨⟨rfl, by first | (left; intro h; cases h) | (right; rfl), by first | exact (fun _ h => ⟨_, h⟩) | exact (fun _ _ => ⟨_, rfl⟩)⟩, ?_⟩), rfl⟩, by simp; omega⟩
    simp; omega
  try simp only [tdy] at h11
  refine AW_condT rfl ?_
  refine AW_skip ?_
  refine AW_seq ?_
  refine AW_block ?_
  refine AW_seq ?_
  refine AW_regionN ?_
  refine AN_p (x_move rfl rfl) ?_
  have d15 := dBelow_lt b cc (n := 5) (by decide)
  refine AN_p (x_call (ks := []) (L := [(200, some _)]) (L' := [(200, some _)]) rfl rfl rfl (below_c b cc hb 5) rfl AllV.rf (caught_of rfl) rfl rfl rfl ⟨rfl, trivial⟩ rfl) ?_
  refine AN_p (x_add rfl rfl rfl (IntWalk.i64_in _ (by omega))) ?_
  refine AN_p (x_assign rfl rfl) ?_
  refine AN_nil ?_
  refine AW_seq ?_
  refine AW_regionN ?_
  refine AN_p (x_move rfl rfl) ?_
  refine AN_p (x_build (zs := [.int .i64 0, .int .i64 0, .int .i64 0]) (places := [(0, 1), (1, 1), (2, 1)]) rfl (by kernel_rfl) rfl rfl rfl rfl rfl) ?_
  refine AN_p (x_alloc (z := .agg #[.int .i64 0, .int .i64 0, .int .i64 0]) 101 rfl (by kernel_rfl) rfl rfl rfl rfl) ?_
  refine AN_p (x_store (n := 3) rfl rfl rfl rfl (by kernel_rfl) rfl rfl rfl) ?_
  refine AN_nil ?_
  refine AW_seq ?_
  refine AW_seq ?_
  refine AW_regionN ?_
  refine AN_p (x_move rfl rfl) ?_
  refine AN_b (x_eql rfl rfl rfl) (fun b20 h20 => ?_)
  refine AN_nil ?_
  cases b20
  · try simp only [tdy] at h20
    refine AW_condF rfl ?_
    refine AW_skip ?_
    refine AW_seq ?_
    refine AW_seq ?_
    refine AW_regionN ?_
    refine AN_p (x_move rfl rfl) ?_
    refine AN_b (x_eql rfl rfl rfl) (fun b26 h26 => ?_)
    refine AN_nil ?_
    cases b26
    · try simp only [tdy] at h26
      refine AW_condF rfl ?_
      refine AW_skip ?_
      refine AW_regionN ?_
      refine AN_p (x_move rfl rfl) ?_
      refine AN_p (x_loadN (n := 3) rfl rfl rfl (by kernel_rfl) rfl rfl) ?_
      refine AN_p (y_bslice (E := 114) (e := actE) [.tmp 35] ([⟨_, _, _⟩]) 102 rfl rfl rfl rfl rfl rfl rfl rfl FitL.rf rfl rfl rfl rfl rfl rfl (by kernel_rfl)) ?_
      refine AN_p (y_append 103 rfl rfl rfl rfl rfl rfl rfl rfl (by kernel_rfl) (by simp; omega)) ?_
      refine AN_p (x_assign rfl rfl) ?_
      refine AN_nil ?_
      refine AW_regionN ?_
      refine AN_p (x_move rfl rfl) ?_
      refine AN_p (x_sub rfl rfl rfl (IntWalk.i64_in _ (by omega))) ?_
      refine AN_p (x_assign rfl rfl) ?_
      refine AN_nil ?_
      refine ⟨⟨⟨_, _, _⟩, ?_⟩, rn [(100, 103)], by exact ⟨by (repeat refine ⟨⟨_, rfl, by first | exact VLe.rf | exact vle_int (by dsimp only; omega)⟩, ?_⟩); exact trivial, by (repeat refine ⟨⟨_, rfl, by first | exact BLe.rf | exact BLe.box AllC.rf | exact BLe.arr (by exact rfl)⟩, ?_⟩); exact trivial, by repeat (first | exact trivial | refine ⟨⟨rfl, by first | (left; intro h; cases h) | (right; rfl), by first | exact (fun _ h => ⟨_, h⟩) | exact (fun _ _ => ⟨_, rfl⟩)⟩, ?_⟩), rfl⟩, by dsimp only; omega⟩
      simp; omega
    try simp only [tdy] at h26
    refine AW_condT rfl ?_
    refine AW_seq ?_
    refine AW_regionN ?_
    refine AN_p (x_move rfl rfl) ?_
    have d28 := dBelow_lt b (dBelow b cc 5).2 (n := 2) (by decide)
    refine AN_p (x_call (ks := []) (L := [(200, some _)]) (L' := [(200, some _)]) rfl rfl rfl (below_c b (dBelow b cc 5).2 hb 2) rfl AllV.rf (caught_of rfl) rfl rfl rfl ⟨rfl, trivial⟩ rfl) ?_
    refine AN_p (x_add rfl rfl rfl (IntWalk.i64_in _ (by omega))) ?_
    refine AN_p (x_field (off := 1) (o' := 1) rfl rfl rfl (by kernel_rfl) rfl) ?_
    refine AN_p (x_store (n := 1) rfl rfl rfl rfl (by kernel_rfl) rfl rfl rfl) ?_
    refine AN_nil ?_
    refine AW_regionN ?_
    refine AN_p (x_move rfl rfl) ?_
    refine AN_p (x_call (ks := []) (L := [(200, some _)]) (L' := [(200, some _)]) rfl rfl rfl (num6_c b (dBelow b (dBelow b cc 5).2 2).2 hb) rfl AllV.rf (caught_of rfl) rfl rfl rfl ⟨rfl, trivial⟩ rfl) ?_
    refine AN_p (x_field (off := 2) (o' := 2) rfl rfl rfl (by kernel_rfl) rfl) ?_
    refine AN_p (x_store (n := 1) rfl rfl rfl rfl (by kernel_rfl) rfl rfl rfl) ?_
    refine AN_nil ?_
    refine AW_regionN ?_
    refine AN_p (x_move rfl rfl) ?_
    refine AN_p (x_loadN (n := 3) rfl rfl rfl (by kernel_rfl) rfl rfl) ?_
    refine AN_p (y_bslice (E := 114) (e := actE) [.tmp 35] ([⟨_, _, _⟩]) 102 rfl rfl rfl rfl rfl rfl rfl rfl FitL.rf rfl rfl rfl rfl rfl rfl (by kernel_rfl)) ?_
    refine AN_p (y_append 103 rfl rfl rfl rfl rfl rfl rfl rfl (by kernel_rfl) (by simp; omega)) ?_
    refine AN_p (x_assign rfl rfl) ?_
    refine AN_nil ?_
    refine AW_regionN ?_
    refine AN_p (x_move rfl rfl) ?_
    refine AN_p (x_sub rfl rfl rfl (IntWalk.i64_in _ (by omega))) ?_
    refine AN_p (x_assign rfl rfl) ?_
    refine AN_nil ?_
    refine ⟨⟨⟨_, _, _⟩, ?_⟩, rn [(100, 103)], by exact ⟨by (repeat refine ⟨⟨_, rfl, by first | exact VLe.rf | exact vle_int (by dsimp only; omega)⟩, ?_⟩); exact trivial, by (repeat refine ⟨⟨_, rfl, by first | exact BLe.rf | exact BLe.box AllC.rf | exact BLe.arr (by exact rfl)⟩, ?_⟩); exact trivial, by repeat (first | exact trivial | refine ⟨⟨rfl, by first | (left; intro h; cases h) | (right; rfl), by first | exact (fun _ h => ⟨_, h⟩) | exact (fun _ _ => ⟨_, rfl⟩)⟩, ?_⟩), rfl⟩, by dsimp only; omega⟩
    simp; omega
  try simp only [tdy] at h20
  refine AW_condT rfl ?_
  refine AW_regionN ?_
  refine AN_p (x_move rfl rfl) ?_
  have d22 := dBelow_lt b (dBelow b cc 5).2 (n := 5) (by decide)
  refine AN_p (x_call (ks := []) (L := [(200, some _)]) (L' := [(200, some _)]) rfl rfl rfl (below_c b (dBelow b cc 5).2 hb 5) rfl AllV.rf (caught_of rfl) rfl rfl rfl ⟨rfl, trivial⟩ rfl) ?_
  refine AN_p (x_add rfl rfl rfl (IntWalk.i64_in _ (by omega))) ?_
  refine AN_p (x_field (off := 1) (o' := 1) rfl rfl rfl (by kernel_rfl) rfl) ?_
  refine AN_p (x_store (n := 1) rfl rfl rfl rfl (by kernel_rfl) rfl rfl rfl) ?_
  refine AN_nil ?_
  refine AW_seq ?_
  refine AW_seq ?_
  refine AW_regionN ?_
  refine AN_p (x_move rfl rfl) ?_
  refine AN_b (x_eql rfl rfl rfl) (fun b26 h26 => ?_)
  refine AN_nil ?_
  cases b26
  · try simp only [tdy] at h26
    refine AW_condF rfl ?_
    refine AW_skip ?_
    refine AW_regionN ?_
    refine AN_p (x_move rfl rfl) ?_
    refine AN_p (x_loadN (n := 3) rfl rfl rfl (by kernel_rfl) rfl rfl) ?_
    refine AN_p (y_bslice (E := 114) (e := actE) [.tmp 35] ([⟨_, _, _⟩]) 102 rfl rfl rfl rfl rfl rfl rfl rfl FitL.rf rfl rfl rfl rfl rfl rfl (by kernel_rfl)) ?_
    refine AN_p (y_append 103 rfl rfl rfl rfl rfl rfl rfl rfl (by kernel_rfl) (by simp; omega)) ?_
    refine AN_p (x_assign rfl rfl) ?_
    refine AN_nil ?_
    refine AW_regionN ?_
    refine AN_p (x_move rfl rfl) ?_
    refine AN_p (x_sub rfl rfl rfl (IntWalk.i64_in _ (by omega))) ?_
    refine AN_p (x_assign rfl rfl) ?_
    refine AN_nil ?_
    refine ⟨⟨⟨_, _, _⟩, ?_⟩, rn [(100, 103)], by exact ⟨by (repeat refine ⟨⟨_, rfl, by first | exact VLe.rf | exact vle_int (by dsimp only; omega)⟩, ?_⟩); exact trivial, by (repeat refine ⟨⟨_, rfl, by first | exact BLe.rf | exact BLe.box AllC.rf | exact BLe.arr (by exact rfl)⟩, ?_⟩); exact trivial, by repeat (first | exact trivial | refine ⟨⟨rfl, by first | (left; intro h; cases h) | (right; rfl), by first | exact (fun _ h => ⟨_, h⟩) | exact (fun _ _ => ⟨_, rfl⟩)⟩, ?_⟩), rfl⟩, by dsimp only; omega⟩
    simp; omega
  try simp only [tdy] at h26
  refine AW_condT rfl ?_
  refine AW_seq ?_
  refine AW_regionN ?_
  refine AN_p (x_move rfl rfl) ?_
  have d28 := dBelow_lt b (dBelow b (dBelow b cc 5).2 5).2 (n := 2) (by decide)
  refine AN_p (x_call (ks := []) (L := [(200, some _)]) (L' := [(200, some _)]) rfl rfl rfl (below_c b (dBelow b (dBelow b cc 5).2 5).2 hb 2) rfl AllV.rf (caught_of rfl) rfl rfl rfl ⟨rfl, trivial⟩ rfl) ?_
  refine AN_p (x_add rfl rfl rfl (IntWalk.i64_in _ (by omega))) ?_
  refine AN_p (x_field (off := 1) (o' := 1) rfl rfl rfl (by kernel_rfl) rfl) ?_
  refine AN_p (x_store (n := 1) rfl rfl rfl rfl (by kernel_rfl) rfl rfl rfl) ?_
  refine AN_nil ?_
  refine AW_regionN ?_
  refine AN_p (x_move rfl rfl) ?_
  refine AN_p (x_call (ks := []) (L := [(200, some _)]) (L' := [(200, some _)]) rfl rfl rfl (num6_c b (dBelow b (dBelow b (dBelow b cc 5).2 5).2 2).2 hb) rfl AllV.rf (caught_of rfl) rfl rfl rfl ⟨rfl, trivial⟩ rfl) ?_
  refine AN_p (x_field (off := 2) (o' := 2) rfl rfl rfl (by kernel_rfl) rfl) ?_
  refine AN_p (x_store (n := 1) rfl rfl rfl rfl (by kernel_rfl) rfl rfl rfl) ?_
  refine AN_nil ?_
  refine AW_regionN ?_
  refine AN_p (x_move rfl rfl) ?_
  refine AN_p (x_loadN (n := 3) rfl rfl rfl (by kernel_rfl) rfl rfl) ?_
  refine AN_p (y_bslice (E := 114) (e := actE) [.tmp 35] ([⟨_, _, _⟩]) 102 rfl rfl rfl rfl rfl rfl rfl rfl FitL.rf rfl rfl rfl rfl rfl rfl (by kernel_rfl)) ?_
  refine AN_p (y_append 103 rfl rfl rfl rfl rfl rfl rfl rfl (by kernel_rfl) (by simp; omega)) ?_
  refine AN_p (x_assign rfl rfl) ?_
  refine AN_nil ?_
  refine AW_regionN ?_
  refine AN_p (x_move rfl rfl) ?_
  refine AN_p (x_sub rfl rfl rfl (IntWalk.i64_in _ (by omega))) ?_
  refine AN_p (x_assign rfl rfl) ?_
  refine AN_nil ?_
  refine ⟨⟨⟨_, _, _⟩, ?_⟩, rn [(100, 103)], by exact ⟨by (repeat refine ⟨⟨_, rfl, by first | exact VLe.rf | exact vle_int (by dsimp only; omega)⟩, ?_⟩); exact trivial, by (repeat refine ⟨⟨_, rfl, by first | exact BLe.rf | exact BLe.box AllC.rf | exact BLe.arr (by exact rfl)⟩, ?_⟩); exact trivial, by repeat (first | exact trivial | refine ⟨⟨rfl, by first | (left; intro h; cases h) | (right; rfl), by first | exact (fun _ h => ⟨_, h⟩) | exact (fun _ _ => ⟨_, rfl⟩)⟩, ?_⟩), rfl⟩, by dsimp only; omega⟩
  simp; omega

set_option maxHeartbeats 4000000 in
theorem anyActs_x (b : List Int) (c : Cur) (hb : b.length ≤ 1048576) : AX Try.prog 133 [.one (.ptr 200 0)] [(200, some (curB b c))] (ι := List Actt × Cur) (fun i => i.1.length ≤ 13) (fun i => .one (.sl actE i.1)) (fun i => [(200, some (curB b i.2))]) := by
  refine AX_body1 (x := fun (i : List Actt × Cur) => .one (.sl actE i.1)) (L' := fun (i : List Actt × Cur) => [(200, some (curB b i.2))]) Try.func133 rfl rfl Try.ntmps133 rfl Try.results133 ?_
  refine AW_seq ?_
  refine AW_regionN ?_
  refine AN_p (x_assign rfl rfl) ?_
  refine AN_nil ?_
  refine AW_seq ?_
  refine AW_regionN ?_
  refine AN_p (x_move rfl rfl) ?_
  refine AN_x (L := [(200, some (curB b c))]) rfl rfl rfl (acts_x b c hb) rfl rfl (fun _ => rfl) (fun _ => rfl) ⟨rfl, trivial⟩ (fun _ => rfl) ?_
  rintro ⟨x8, c8⟩ g8
  dsimp only at g8 ⊢
  refine AN_p (x_assign rfl rfl) ?_
  refine AN_nil ?_
  refine AW_seq ?_
  refine AW_seq ?_
  refine AW_regionN ?_
  refine AN_p (x_move rfl rfl) ?_
  refine AN_p (x_olen (E := 114) (n := 3) rfl rfl rfl (by kernel_rfl)) ?_
  refine AN_b (x_gtr rfl rfl rfl) (fun b11 h11 => ?_)
  refine AN_p (x_move rfl rfl) ?_
  cases b11
  · try simp only [tdy] at h11
    refine AN_o rfl rfl rfl rfl ?_
    refine AN_o rfl rfl rfl rfl ?_
    refine AN_o rfl rfl rfl rfl ?_
    refine AN_p (x_pickF rfl rfl rfl) ?_
    refine AN_nil ?_
    refine AW_condF rfl ?_
    refine AW_skip ?_
    refine AW_seq ?_
    refine AW_regionN ?_
    refine AN_p (x_move rfl rfl) ?_
    refine AN_p (x_assign rfl rfl) ?_
    refine AN_nil ?_
    refine AW_shut 303 2 rfl rfl ?_
    refine AW_ret ?_
    refine ⟨⟨_, _⟩, ?_, rn [], by exact ⟨⟨⟨_, rfl, VLe.rf⟩, trivial⟩, ⟨⟨_, rfl, BLe.rf⟩, trivial⟩, by repeat (first | exact trivial | refine ⟨⟨rfl, by first | (left; intro h; cases h) | (right; rfl), by first | exact (fun _ h => ⟨_, h⟩) | exact (fun _ _ => ⟨_, rfl⟩)⟩, ?_⟩), rfl⟩⟩
    first | (dsimp only; omega) | (simp; omega)
  try simp only [tdy] at h11
  refine AN_g rfl rfl (x_move rfl rfl) ?_
  have d14 := dBelow_lt b c8 (n := 5) (by decide)
  refine AN_g rfl rfl (x_call (ks := []) (L := [(200, some _)]) (L' := [(200, some _)]) rfl rfl rfl (below_c b c8 hb 5) rfl AllV.rf (caught_of rfl) rfl rfl rfl ⟨rfl, trivial⟩ rfl) ?_
  refine AN_gb rfl rfl (x_eql rfl rfl rfl) (fun b15 h15 => ?_)
  refine AN_p (x_pickT rfl rfl rfl) ?_
  refine AN_nil ?_
  cases b15
  · try simp only [tdy] at h15
    refine AW_condF rfl ?_
    refine AW_skip ?_
    refine AW_seq ?_
    refine AW_regionN ?_
    refine AN_p (x_move rfl rfl) ?_
    refine AN_p (x_assign rfl rfl) ?_
    refine AN_nil ?_
    refine AW_shut 303 2 rfl rfl ?_
    refine AW_ret ?_
    refine ⟨⟨_, _⟩, ?_, rn [], by exact ⟨⟨⟨_, rfl, VLe.rf⟩, trivial⟩, ⟨⟨_, rfl, BLe.rf⟩, trivial⟩, by repeat (first | exact trivial | refine ⟨⟨rfl, by first | (left; intro h; cases h) | (right; rfl), by first | exact (fun _ h => ⟨_, h⟩) | exact (fun _ _ => ⟨_, rfl⟩)⟩, ?_⟩), rfl⟩⟩
    first | (dsimp only; omega) | (simp; omega)
  try simp only [tdy] at h15
  refine AW_condT rfl ?_
  refine AW_seq ?_
  refine AW_regionN ?_
  refine AN_p (x_move rfl rfl) ?_
  refine AN_p (x_move rfl rfl) ?_
  refine AN_p (x_olen (E := 114) (n := 3) rfl rfl rfl (by kernel_rfl)) ?_
  have d20 := dBelow_lt b (dBelow b c8 5).2 (n := (x8.length : Int)) (by omega)
  refine AN_p (x_call (ks := []) (L := [(200, some _)]) (L' := [(200, some _)]) rfl rfl rfl (below_c b (dBelow b c8 5).2 hb (x8.length : Int)) rfl AllV.rf (caught_of rfl) rfl rfl rfl ⟨rfl, trivial⟩ rfl) ?_
  refine AN_p (x_assign rfl rfl) ?_
  refine AN_nil ?_
  refine AW_seq ?_
  refine AW_regionN ?_
  refine AN_p (x_move rfl rfl) ?_
  have d22 := dBelow_lt b (dBelow b (dBelow b c8 5).2 (x8.length : Int)).2 (n := 3) (by decide)
  refine AN_p (x_call (ks := []) (L := [(200, some _)]) (L' := [(200, some _)]) rfl rfl rfl (below_c b (dBelow b (dBelow b c8 5).2 (x8.length : Int)).2 hb 3) rfl AllV.rf (caught_of rfl) rfl rfl rfl ⟨rfl, trivial⟩ rfl) ?_
  refine AN_p (x_assign rfl rfl) ?_
  refine AN_nil ?_
  refine AW_seq ?_
  refine AW_regionN ?_
  refine AN_p (x_move rfl rfl) ?_
  refine AN_p (x_move rfl rfl) ?_
  refine AN_p (x_oindex (n := 3) rfl rfl rfl rfl (by kernel_rfl) rfl (k := (dBelow b (dBelow b c8 5).2 (x8.length : Int)).1.toNat) (by omega) (by omega)) ?_
  refine AN_p (x_oloadN (n := 3) rfl rfl rfl (by kernel_rfl) (by omega) rfl rfl) ?_
  refine AN_p (x_alloc (z := .agg #[.int .i64 0, .int .i64 0, .int .i64 0]) 100 rfl (by kernel_rfl) rfl rfl rfl rfl) ?_
  refine AN_p (x_store (n := 3) rfl rfl rfl rfl (by kernel_rfl) rfl rfl rfl) ?_
  refine AN_nil ?_
  refine AW_seq ?_
  refine AW_seq ?_
  refine AW_regionN ?_
  refine AN_p (x_move rfl rfl) ?_
  refine AN_b (x_eql rfl rfl rfl) (fun b28 h28 => ?_)
  refine AN_nil ?_
  cases b28
  rotate_left
  · try simp only [tdy] at h28
    refine AW_condT rfl ?_
    refine AW_regionN ?_
    refine AN_p (x_move rfl rfl) ?_
    have d30 := dBelow_lt b (dBelow b (dBelow b (dBelow b c8 5).2 (x8.length : Int)).2 3).2 (n := 8) (by decide)
    refine AN_p (x_call (ks := []) (L := [(200, some _)]) (L' := [(200, some _)]) rfl rfl rfl (below_c b (dBelow b (dBelow b (dBelow b c8 5).2 (x8.length : Int)).2 3).2 hb 8) rfl AllV.rf (caught_of rfl) rfl rfl rfl ⟨rfl, trivial⟩ rfl) ?_
    refine AN_p (x_sub rfl rfl rfl (IntWalk.i64_in _ (by omega))) ?_
    refine AN_p (x_field (off := 0) (o' := 0) rfl rfl rfl (by kernel_rfl) rfl) ?_
    refine AN_p (x_store (n := 1) rfl rfl rfl rfl (by kernel_rfl) rfl rfl rfl) ?_
    refine AN_nil ?_
    refine AW_regionN ?_
    refine AN_p (x_move rfl rfl) ?_
    refine AN_p (x_move rfl rfl) ?_
    refine AN_p (x_loadN (n := 3) rfl rfl rfl (by kernel_rfl) rfl rfl) ?_
    refine AN_p (x_oindex (n := 3) rfl rfl rfl rfl (by kernel_rfl) rfl (k := (dBelow b (dBelow b c8 5).2 (x8.length : Int)).1.toNat) (by omega) (by omega)) ?_
    refine AN_p (x_ostore (⟨(dBelow b (dBelow b (dBelow b (dBelow b c8 5).2 (x8.length : Int)).2 3).2 8).1 - 1, (x8[(dBelow b (dBelow b c8 5).2 (x8.length : Int)).1.toNat]'(by omega)).a, (x8[(dBelow b (dBelow b c8 5).2 (x8.length : Int)).1.toNat]'(by omega)).b⟩) rfl rfl rfl rfl (by kernel_rfl) rfl rfl rfl rfl FitL.rf rfl rfl (by first | omega | (rw [filledTo_len (by omega)]; omega) | (simp; omega))) ?_
    refine AN_nil ?_
    refine AW_seq ?_
    refine AW_regionN ?_
    refine AN_p (x_move rfl rfl) ?_
    refine AN_p (x_assign rfl rfl) ?_
    refine AN_nil ?_
    refine AW_shut 303 2 rfl rfl ?_
    refine AW_ret ?_
    refine ⟨⟨_, _⟩, ?_, rn [], by exact ⟨⟨⟨_, rfl, VLe.rf⟩, trivial⟩, ⟨⟨_, rfl, BLe.rf⟩, trivial⟩, by repeat (first | exact trivial | refine ⟨⟨rfl, by first | (left; intro h; cases h) | (right; rfl), by first | exact (fun _ h => ⟨_, h⟩) | exact (fun _ _ => ⟨_, rfl⟩)⟩, ?_⟩), rfl⟩⟩
    first | (dsimp only; omega) | (simp; omega)
  try simp only [tdy] at h28
  refine AW_condF rfl ?_
  refine AW_seq ?_
  refine AW_regionN ?_
  refine AN_p (x_move rfl rfl) ?_
  refine AN_b (x_eql rfl rfl rfl) (fun b34 h34 => ?_)
  refine AN_nil ?_
  cases b34
  · try simp only [tdy] at h34
    refine AW_condF rfl ?_
    refine AW_regionN ?_
    refine AN_p (x_move rfl rfl) ?_
    refine AN_p (x_call (ks := []) (L := [(200, some _)]) (L' := [(200, some _)]) rfl rfl rfl (raw_c b (dBelow b (dBelow b (dBelow b c8 5).2 (x8.length : Int)).2 3).2 hb) rfl AllV.rf (caught_of rfl) rfl rfl rfl ⟨rfl, trivial⟩ rfl) ?_
    refine AN_p (x_field (off := 2) (o' := 2) rfl rfl rfl (by kernel_rfl) rfl) ?_
    refine AN_p (x_store (n := 1) rfl rfl rfl rfl (by kernel_rfl) rfl rfl rfl) ?_
    refine AN_nil ?_
    refine AW_regionN ?_
    refine AN_p (x_move rfl rfl) ?_
    refine AN_p (x_move rfl rfl) ?_
    refine AN_p (x_loadN (n := 3) rfl rfl rfl (by kernel_rfl) rfl rfl) ?_
    refine AN_p (x_oindex (n := 3) rfl rfl rfl rfl (by kernel_rfl) rfl (k := (dBelow b (dBelow b c8 5).2 (x8.length : Int)).1.toNat) (by omega) (by omega)) ?_
    refine AN_p (x_ostore (⟨(x8[(dBelow b (dBelow b c8 5).2 (x8.length : Int)).1.toNat]'(by omega)).kind, (x8[(dBelow b (dBelow b c8 5).2 (x8.length : Int)).1.toNat]'(by omega)).a, (dRaw b (dBelow b (dBelow b (dBelow b c8 5).2 (x8.length : Int)).2 3).2).1⟩) rfl rfl rfl rfl (by kernel_rfl) rfl rfl rfl rfl FitL.rf rfl rfl (by first | omega | (rw [filledTo_len (by omega)]; omega) | (simp; omega))) ?_
    refine AN_nil ?_
    refine AW_seq ?_
    refine AW_regionN ?_
    refine AN_p (x_move rfl rfl) ?_
    refine AN_p (x_assign rfl rfl) ?_
    refine AN_nil ?_
    refine AW_shut 303 2 rfl rfl ?_
    refine AW_ret ?_
    refine ⟨⟨_, _⟩, ?_, rn [], by exact ⟨⟨⟨_, rfl, VLe.rf⟩, trivial⟩, ⟨⟨_, rfl, BLe.rf⟩, trivial⟩, by repeat (first | exact trivial | refine ⟨⟨rfl, by first | (left; intro h; cases h) | (right; rfl), by first | exact (fun _ h => ⟨_, h⟩) | exact (fun _ _ => ⟨_, rfl⟩)⟩, ?_⟩), rfl⟩⟩
    first | (dsimp only; omega) | (simp; omega)
  try simp only [tdy] at h34
  refine AW_condT rfl ?_
  refine AW_regionN ?_
  refine AN_p (x_move rfl rfl) ?_
  refine AN_p (x_call (ks := []) (L := [(200, some _)]) (L' := [(200, some _)]) rfl rfl rfl (raw_c b (dBelow b (dBelow b (dBelow b c8 5).2 (x8.length : Int)).2 3).2 hb) rfl AllV.rf (caught_of rfl) rfl rfl rfl ⟨rfl, trivial⟩ rfl) ?_
  refine AN_p (y_bslice (E := 3) (e := (intE .i64)) [.const (.int .i64 (0)), .const (.int .i64 (255)), .const (.int .i64 (256)), .tmp 36] ([0, 255, 256, (dRaw b (dBelow b (dBelow b (dBelow b c8 5).2 (x8.length : Int)).2 3).2).1]) 101 rfl rfl rfl rfl rfl rfl rfl rfl FitL.rf rfl rfl rfl rfl rfl rfl (by kernel_rfl)) ?_
  refine AN_p (x_move rfl rfl) ?_
  have d39 := dBelow_lt b (dRaw b (dBelow b (dBelow b (dBelow b c8 5).2 (x8.length : Int)).2 3).2).2 (n := 4) (by decide)
  refine AN_p (x_call (ks := []) (L := [(200, some _)]) (L' := [(200, some _)]) rfl rfl rfl (below_c b (dRaw b (dBelow b (dBelow b (dBelow b c8 5).2 (x8.length : Int)).2 3).2).2 hb 4) rfl AllV.rf (caught_of rfl) rfl rfl rfl ⟨rfl, trivial⟩ rfl) ?_
  refine AN_p (x_oindex (n := 1) rfl rfl rfl rfl (by kernel_rfl) rfl (k := (dBelow b (dRaw b (dBelow b (dBelow b (dBelow b c8 5).2 (x8.length : Int)).2 3).2).2 4).1.toNat) (by omega) (by simp; omega)) ?_
  refine AN_p (x_oload1 rfl rfl rfl (by kernel_rfl) (by simp; omega) rfl) ?_
  refine AN_p (x_field (off := 1) (o' := 1) rfl rfl rfl (by kernel_rfl) rfl) ?_
  refine AN_p (x_store (n := 1) rfl rfl rfl rfl (by kernel_rfl) rfl rfl rfl) ?_
  refine AN_nil ?_
  refine AW_regionN ?_
  refine AN_p (x_move rfl rfl) ?_
  refine AN_p (x_move rfl rfl) ?_
  refine AN_p (x_loadN (n := 3) rfl rfl rfl (by kernel_rfl) rfl rfl) ?_
  refine AN_p (x_oindex (n := 3) rfl rfl rfl rfl (by kernel_rfl) rfl (k := (dBelow b (dBelow b c8 5).2 (x8.length : Int)).1.toNat) (by omega) (by omega)) ?_
  refine AN_p (x_ostore (⟨(x8[(dBelow b (dBelow b c8 5).2 (x8.length : Int)).1.toNat]'(by omega)).kind, [0, 255, 256, (dRaw b (dBelow b (dBelow b (dBelow b c8 5).2 (x8.length : Int)).2 3).2).1][(dBelow b (dRaw b (dBelow b (dBelow b (dBelow b c8 5).2 (x8.length : Int)).2 3).2).2 4).1.toNat]'(by simp; omega), (x8[(dBelow b (dBelow b c8 5).2 (x8.length : Int)).1.toNat]'(by omega)).b⟩) rfl rfl rfl rfl (by kernel_rfl) rfl rfl rfl rfl FitL.rf rfl rfl (by first | omega | (rw [filledTo_len (by omega)]; omega) | (simp; omega))) ?_
  refine AN_nil ?_
  refine AW_seq ?_
  refine AW_regionN ?_
  refine AN_p (x_move rfl rfl) ?_
  refine AN_p (x_assign rfl rfl) ?_
  refine AN_nil ?_
  refine AW_shut 303 2 rfl rfl ?_
  refine AW_ret ?_
  refine ⟨⟨_, _⟩, ?_, rn [], by exact ⟨⟨⟨_, rfl, VLe.rf⟩, trivial⟩, ⟨⟨_, rfl, BLe.rf⟩, trivial⟩, by repeat (first | exact trivial | refine ⟨⟨rfl, by first | (left; intro h; cases h) | (right; rfl), by first | exact (fun _ h => ⟨_, h⟩) | exact (fun _ _ => ⟨_, rfl⟩)⟩, ?_⟩), rfl⟩⟩
  first | (dsimp only; omega) | (simp; omega)

set_option maxHeartbeats 4000000 in
theorem entry_x (b : List Int) (c : Cur) (hb : b.length ≤ 1048576) : AX Try.prog 121 [.one (.ptr 200 0)] [(200, some (curB b c))] (ι := (Int × Int × (List Int × List Int) × List Actt × Int) × Cur) (fun i => i.1.2.2.1.1.length = 8 ∧ i.1.2.2.1.2.length = 8 ∧ i.1.2.2.2.1.length ≤ 13) (fun i => .agg [.c (.int .i64 i.1.1), .c (.int .i64 i.1.2.1), .sl (intE .i64) i.1.2.2.1.1, .sl (intE .i64) i.1.2.2.1.2, .sl actE i.1.2.2.2.1, .c (.int .i64 i.1.2.2.2.2)]) (fun i => [(200, some (curB b i.2))]) := by
  refine AX_bodyC (n := 6) (k := 9) (cs := fun (i : (Int × Int × (List Int × List Int) × List Actt × Int) × Cur) => [.c (.int .i64 i.1.1), .c (.int .i64 i.1.2.1), .sl (intE .i64) i.1.2.2.1.1, .sl (intE .i64) i.1.2.2.1.2, .sl actE i.1.2.2.2.1, .c (.int .i64 i.1.2.2.2.2)]) (T := fun (_ : (Int × Int × (List Int × List Int) × List Actt × Int) × Cur) => [(2, .one (.ptr 9 0))]) (Lf := fun (i : (Int × Int × (List Int × List Int) × List Actt × Int) × Cur) => ((9, some (.box [.c (.int .i64 i.1.1), .c (.int .i64 i.1.2.1), .sl (intE .i64) i.1.2.2.1.1, .sl (intE .i64) i.1.2.2.1.2, .sl actE i.1.2.2.2.1, .c (.int .i64 i.1.2.2.2.2)])) :: [(200, some (curB b i.2))])) (L' := fun (i : (Int × Int × (List Int × List Int) × List Actt × Int) × Cur) => [(200, some (curB b i.2))]) Try.func121 rfl rfl Try.ntmps121 rfl Try.results121 (fun _ => rfl) (fun _ => rfl) (by kernel_rfl) (fun _ => rfl) (fun _ => rfl) (fun (_ : (Int × Int × (List Int × List Int) × List Actt × Int) × Cur) => ⟨trivial, (by repeat (first | exact trivial | refine ⟨⟨_, rfl, BLe.rf⟩, ?_⟩)), (by repeat (first | exact trivial | refine ⟨⟨rfl, by first | (left; intro h; cases h) | (right; rfl), by first | exact (fun _ h => ⟨_, h⟩) | exact (fun _ _ => ⟨_, rfl⟩)⟩, ?_⟩)), rfl⟩) ?_
  refine AW_seq ?_
  refine AW_regionN ?_
  refine AN_p (x_alloc (z := .agg #[.int .i64 0, .int .i64 0, .slice none 0 0, .slice none 0 0, .slice none 0 0, .int .i64 0]) 100 rfl (by kernel_rfl) rfl rfl rfl rfl) ?_
  refine AN_nil ?_
  refine AW_seq ?_
  refine AW_regionN ?_
  refine AN_p (x_move rfl rfl) ?_
  have d5 := dBelow_lt b c (n := 3) (by decide)
  refine AN_p (x_call (ks := []) (L := [(200, some _)]) (L' := [(200, some _)]) rfl rfl rfl (below_c b c hb 3) rfl AllV.rf (caught_of rfl) rfl rfl rfl ⟨rfl, trivial⟩ rfl) ?_
  refine AN_p (x_move rfl rfl) ?_
  have d7 := dBelow_lt b (dBelow b c 3).2 (n := 4) (by decide)
  refine AN_p (x_call (ks := []) (L := [(200, some _)]) (L' := [(200, some _)]) rfl rfl rfl (below_c b (dBelow b c 3).2 hb 4) rfl AllV.rf (caught_of rfl) rfl rfl rfl ⟨rfl, trivial⟩ rfl) ?_
  refine AN_p (x_move rfl rfl) ?_
  refine AN_x (L := [(200, some (curB b (dBelow b (dBelow b c 3).2 4).2))]) rfl rfl rfl (match_x b (dBelow b (dBelow b c 3).2 4).2 hb) rfl rfl (fun _ => rfl) (fun _ => rfl) ⟨rfl, trivial⟩ (fun _ => rfl) ?_
  rintro ⟨x9, c9⟩ g9
  dsimp only at g9 ⊢
  refine AN_p (x_move rfl rfl) ?_
  refine AN_x (L := [(200, some (curB b c9))]) rfl rfl rfl (acts_x b c9 hb) rfl rfl (fun _ => rfl) (fun _ => rfl) ⟨rfl, trivial⟩ (fun _ => rfl) ?_
  rintro ⟨y11, c11⟩ g11
  dsimp only at g11 ⊢
  refine AN_p (x_move rfl rfl) ?_
  have d13 := dBelow_lt b c11 (n := 3) (by decide)
  refine AN_p (x_call (ks := []) (L := [(200, some _)]) (L' := [(200, some _)]) rfl rfl rfl (below_c b c11 hb 3) rfl AllV.rf (caught_of rfl) rfl rfl rfl ⟨rfl, trivial⟩ rfl) ?_
  refine AN_p (x_build (zs := [.int .i64 0, .int .i64 0, .slice none 0 0, .slice none 0 0, .slice none 0 0, .int .i64 0]) (places := [(0, 1), (1, 1), (2, 2), (4, 1), (5, 1)]) rfl (by kernel_rfl) rfl rfl rfl rfl rfl) ?_
  refine AN_p (x_alloc (z := .agg #[.int .i64 0, .int .i64 0, .slice none 0 0, .slice none 0 0, .slice none 0 0, .int .i64 0]) 101 rfl (by kernel_rfl) rfl rfl rfl rfl) ?_
  refine AN_p (x_store (n := 6) rfl rfl rfl rfl (by kernel_rfl) rfl rfl rfl) ?_
  refine AN_nil ?_
  refine AW_seq ?_
  refine AW_seq ?_
  refine AW_shutB 303 101 4 rfl rfl rfl rfl ?_
  refine AW_regionN ?_
  refine AN_p (x_field (off := 4) (o' := 4) rfl rfl rfl (by kernel_rfl) rfl) ?_
  refine AN_p (x_load1 rfl rfl rfl (by kernel_rfl) rfl) ?_
  refine AN_p (x_len (E := 114) (n := 3) rfl rfl (by kernel_rfl)) ?_
  refine AN_b (x_gtr rfl rfl rfl) (fun b18 h18 => ?_)
  refine AN_nil ?_
  cases b18
  · try simp only [tdy] at h18
    refine AW_condF rfl ?_
    refine AW_skip ?_
    refine AW_seq ?_
    refine AW_seq ?_
    refine AW_regionN ?_
    refine AN_p (x_move rfl rfl) ?_
    have d21 := dBelow_lt b (dBelow b c11 3).2 (n := 9) (by decide)
    refine AN_p (x_call (ks := []) (L := [(200, some _)]) (L' := [(200, some _)]) rfl rfl rfl (below_c b (dBelow b c11 3).2 hb 9) rfl AllV.rf (caught_of rfl) rfl rfl rfl ⟨rfl, trivial⟩ rfl) ?_
    refine AN_b (x_eql rfl rfl rfl) (fun b22 h22 => ?_)
    refine AN_nil ?_
    cases b22
    · try simp only [tdy] at h22
      refine AW_condF rfl ?_
      refine AW_skip ?_
      refine AW_seq ?_
      refine AW_regionN ?_
      refine AN_p (x_loadN (n := 6) rfl rfl rfl (by kernel_rfl) rfl rfl) ?_
      refine AN_p (x_store (n := 6) rfl rfl rfl rfl (by kernel_rfl) rfl rfl rfl) ?_
      refine AN_nil ?_
      refine AW_shutB 301 100 2 rfl rfl rfl rfl ?_
      refine AW_shutB 302 100 3 rfl rfl rfl rfl ?_
      refine AW_ret ?_
      refine ⟨⟨⟨_, _, ⟨_, _⟩, _, _⟩, _⟩, ?_, rn [(9, 100)], by exact ⟨⟨⟨_, rfl, VLe.rf⟩, trivial⟩, ⟨⟨_, rfl, by first | exact BLe.rf | exact BLe.box (by repeat (first | exact trivial | refine ⟨by first | exact CLe.rf | exact CLe.nil, ?_⟩))⟩, ⟨_, rfl, BLe.rf⟩, trivial⟩, by repeat (first | exact trivial | refine ⟨⟨rfl, by first | (left; intro h; cases h) | (right; rfl), by first | exact (fun _ h => ⟨_, h⟩) | exact (fun _ _ => ⟨_, rfl⟩)⟩, ?_⟩), rfl⟩⟩
      exact ⟨g9.1, g9.2, by first | exact g11 | exact Nat.zero_le _⟩
    try simp only [tdy] at h22
    refine AW_condT rfl ?_
    refine AW_seq ?_
    refine AW_regionN ?_
    refine AN_p (x_move rfl rfl) ?_
    have d24 := dBelow_lt b (dBelow b (dBelow b c11 3).2 9).2 (n := 2) (by decide)
    refine AN_p (x_call (ks := []) (L := [(200, some _)]) (L' := [(200, some _)]) rfl rfl rfl (below_c b (dBelow b (dBelow b c11 3).2 9).2 hb 2) rfl AllV.rf (caught_of rfl) rfl rfl rfl ⟨rfl, trivial⟩ rfl) ?_
    refine AN_p (x_sub rfl rfl rfl (IntWalk.i64_in _ (by omega))) ?_
    refine AN_p (x_field (off := 5) (o' := 5) rfl rfl rfl (by kernel_rfl) rfl) ?_
    refine AN_p (x_store (n := 1) rfl rfl rfl rfl (by kernel_rfl) rfl rfl rfl) ?_
    refine AN_nil ?_
    refine AW_regionN ?_
    refine AN_p (x_field (off := 1) (o' := 1) rfl rfl rfl (by kernel_rfl) rfl) ?_
    refine AN_p (x_store (n := 1) rfl rfl rfl rfl (by kernel_rfl) rfl rfl rfl) ?_
    refine AN_nil ?_
    refine AW_seq ?_
    refine AW_regionN ?_
    refine AN_p (x_loadN (n := 6) rfl rfl rfl (by kernel_rfl) rfl rfl) ?_
    refine AN_p (x_store (n := 6) rfl rfl rfl rfl (by kernel_rfl) rfl rfl rfl) ?_
    refine AN_nil ?_
    refine AW_shutB 301 100 2 rfl rfl rfl rfl ?_
    refine AW_shutB 302 100 3 rfl rfl rfl rfl ?_
    refine AW_ret ?_
    refine ⟨⟨⟨_, _, ⟨_, _⟩, _, _⟩, _⟩, ?_, rn [(9, 100)], by exact ⟨⟨⟨_, rfl, VLe.rf⟩, trivial⟩, ⟨⟨_, rfl, by first | exact BLe.rf | exact BLe.box (by repeat (first | exact trivial | refine ⟨by first | exact CLe.rf | exact CLe.nil, ?_⟩))⟩, ⟨_, rfl, BLe.rf⟩, trivial⟩, by repeat (first | exact trivial | refine ⟨⟨rfl, by first | (left; intro h; cases h) | (right; rfl), by first | exact (fun _ h => ⟨_, h⟩) | exact (fun _ _ => ⟨_, rfl⟩)⟩, ?_⟩), rfl⟩⟩
    exact ⟨g9.1, g9.2, by first | exact g11 | exact Nat.zero_le _⟩
  try simp only [tdy] at h18
  refine AW_condT rfl ?_
  refine AW_regionN ?_
  refine AN_p (x_field (off := 4) (o' := 4) rfl rfl rfl (by kernel_rfl) rfl) ?_
  refine AN_p (x_store (n := 1) rfl rfl rfl rfl (by kernel_rfl) rfl rfl rfl) ?_
  refine AN_nil ?_
  refine AW_seq ?_
  refine AW_seq ?_
  refine AW_regionN ?_
  refine AN_p (x_move rfl rfl) ?_
  have d21 := dBelow_lt b (dBelow b c11 3).2 (n := 9) (by decide)
  refine AN_p (x_call (ks := []) (L := [(200, some _)]) (L' := [(200, some _)]) rfl rfl rfl (below_c b (dBelow b c11 3).2 hb 9) rfl AllV.rf (caught_of rfl) rfl rfl rfl ⟨rfl, trivial⟩ rfl) ?_
  refine AN_b (x_eql rfl rfl rfl) (fun b22 h22 => ?_)
  refine AN_nil ?_
  cases b22
  · try simp only [tdy] at h22
    refine AW_condF rfl ?_
    refine AW_skip ?_
    refine AW_seq ?_
    refine AW_regionN ?_
    refine AN_p (x_loadN (n := 6) rfl rfl rfl (by kernel_rfl) rfl rfl) ?_
    refine AN_p (x_store (n := 6) rfl rfl rfl rfl (by kernel_rfl) rfl rfl rfl) ?_
    refine AN_nil ?_
    refine AW_shutB 301 100 2 rfl rfl rfl rfl ?_
    refine AW_shutB 302 100 3 rfl rfl rfl rfl ?_
    refine AW_ret ?_
    refine ⟨⟨⟨_, _, ⟨_, _⟩, _, _⟩, _⟩, ?_, rn [(9, 100)], by exact ⟨⟨⟨_, rfl, VLe.rf⟩, trivial⟩, ⟨⟨_, rfl, by first | exact BLe.rf | exact BLe.box (by repeat (first | exact trivial | refine ⟨by first | exact CLe.rf | exact CLe.nil, ?_⟩))⟩, ⟨_, rfl, BLe.rf⟩, trivial⟩, by repeat (first | exact trivial | refine ⟨⟨rfl, by first | (left; intro h; cases h) | (right; rfl), by first | exact (fun _ h => ⟨_, h⟩) | exact (fun _ _ => ⟨_, rfl⟩)⟩, ?_⟩), rfl⟩⟩
    exact ⟨g9.1, g9.2, by first | exact g11 | exact Nat.zero_le _⟩
  try simp only [tdy] at h22
  refine AW_condT rfl ?_
  refine AW_seq ?_
  refine AW_regionN ?_
  refine AN_p (x_move rfl rfl) ?_
  have d24 := dBelow_lt b (dBelow b (dBelow b c11 3).2 9).2 (n := 2) (by decide)
  refine AN_p (x_call (ks := []) (L := [(200, some _)]) (L' := [(200, some _)]) rfl rfl rfl (below_c b (dBelow b (dBelow b c11 3).2 9).2 hb 2) rfl AllV.rf (caught_of rfl) rfl rfl rfl ⟨rfl, trivial⟩ rfl) ?_
  refine AN_p (x_sub rfl rfl rfl (IntWalk.i64_in _ (by omega))) ?_
  refine AN_p (x_field (off := 5) (o' := 5) rfl rfl rfl (by kernel_rfl) rfl) ?_
  refine AN_p (x_store (n := 1) rfl rfl rfl rfl (by kernel_rfl) rfl rfl rfl) ?_
  refine AN_nil ?_
  refine AW_regionN ?_
  refine AN_p (x_field (off := 1) (o' := 1) rfl rfl rfl (by kernel_rfl) rfl) ?_
  refine AN_p (x_store (n := 1) rfl rfl rfl rfl (by kernel_rfl) rfl rfl rfl) ?_
  refine AN_nil ?_
  refine AW_seq ?_
  refine AW_regionN ?_
  refine AN_p (x_loadN (n := 6) rfl rfl rfl (by kernel_rfl) rfl rfl) ?_
  refine AN_p (x_store (n := 6) rfl rfl rfl rfl (by kernel_rfl) rfl rfl rfl) ?_
  refine AN_nil ?_
  refine AW_shutB 301 100 2 rfl rfl rfl rfl ?_
  refine AW_shutB 302 100 3 rfl rfl rfl rfl ?_
  refine AW_ret ?_
  refine ⟨⟨⟨_, _, ⟨_, _⟩, _, _⟩, _⟩, ?_, rn [(9, 100)], by exact ⟨⟨⟨_, rfl, VLe.rf⟩, trivial⟩, ⟨⟨_, rfl, by first | exact BLe.rf | exact BLe.box (by repeat (first | exact trivial | refine ⟨by first | exact CLe.rf | exact CLe.nil, ?_⟩))⟩, ⟨_, rfl, BLe.rf⟩, trivial⟩, by repeat (first | exact trivial | refine ⟨⟨rfl, by first | (left; intro h; cases h) | (right; rfl), by first | exact (fun _ h => ⟨_, h⟩) | exact (fun _ _ => ⟨_, rfl⟩)⟩, ?_⟩), rfl⟩⟩
  exact ⟨g9.1, g9.2, by first | exact g11 | exact Nat.zero_le _⟩

set_option maxHeartbeats 4000000 in
theorem msg_x (b : List Int) (c : Cur) (hb : b.length ≤ 1048576) : AX Try.prog 60 [.one (.ptr 200 0)] [(200, some (curB b c))] (ι := Msgt × Cur) (fun i => smallMsg i.1) (fun i => .agg (msgC i.1)) (fun i => [(200, some (curB b i.2))]) := by
  refine AX_bodyC (n := 10) (k := 9) (cs := fun (i : Msgt × Cur) => (msgC i.1)) (T := fun (_ : Msgt × Cur) => [(2, .one (.ptr 9 0))]) (Lf := fun (i : Msgt × Cur) => ((9, some (.box (msgC i.1))) :: [(200, some (curB b i.2))])) (L' := fun (i : Msgt × Cur) => [(200, some (curB b i.2))]) Try.func60 rfl rfl Try.ntmps60 rfl Try.results60 (fun _ => rfl) (fun _ => rfl) (by kernel_rfl) (fun _ => rfl) (fun _ => rfl) (fun (_ : Msgt × Cur) => ⟨trivial, (by repeat (first | exact trivial | refine ⟨⟨_, rfl, BLe.rf⟩, ?_⟩)), (by repeat (first | exact trivial | refine ⟨⟨rfl, by first | (left; intro h; cases h) | (right; rfl), by first | exact (fun _ h => ⟨_, h⟩) | exact (fun _ _ => ⟨_, rfl⟩)⟩, ?_⟩)), rfl⟩) ?_
  refine AW_seq ?_
  refine AW_regionN ?_
  refine AN_p (x_alloc (z := .agg #[.int .i64 0, .int .i64 0, .int .i64 0, .int .i64 0, .int .i64 0, .slice none 0 0, .slice none 0 0, .slice none 0 0, .bool false, .slice none 0 0]) 100 rfl (by kernel_rfl) rfl rfl rfl rfl) ?_
  refine AN_nil ?_
  refine AW_seq ?_
  refine AW_regionN ?_
  refine AN_p (x_move rfl rfl) ?_
  have d6 := dBelow_lt b c (n := 6) (by decide)
  refine AN_p (x_call (ks := []) (L := [(200, some _)]) (L' := [(200, some _)]) rfl rfl rfl (below_c b c hb 6) rfl AllV.rf (caught_of rfl) rfl rfl rfl ⟨rfl, trivial⟩ rfl) ?_
  refine AN_p (x_add rfl rfl rfl (IntWalk.i64_in _ (by omega))) ?_
  refine AN_p (x_move rfl rfl) ?_
  have d9 := dBelow_lt b (dBelow b c 6).2 (n := 4) (by decide)
  refine AN_p (x_call (ks := []) (L := [(200, some _)]) (L' := [(200, some _)]) rfl rfl rfl (below_c b (dBelow b c 6).2 hb 4) rfl AllV.rf (caught_of rfl) rfl rfl rfl ⟨rfl, trivial⟩ rfl) ?_
  refine AN_p (x_move rfl rfl) ?_
  have d11 := dBelow_lt b (dBelow b (dBelow b c 6).2 4).2 (n := 9) (by decide)
  refine AN_p (x_call (ks := []) (L := [(200, some _)]) (L' := [(200, some _)]) rfl rfl rfl (below_c b (dBelow b (dBelow b c 6).2 4).2 hb 9) rfl AllV.rf (caught_of rfl) rfl rfl rfl ⟨rfl, trivial⟩ rfl) ?_
  refine AN_p (x_build (zs := [.int .i64 0, .int .i64 0, .int .i64 0, .int .i64 0, .int .i64 0, .slice none 0 0, .slice none 0 0, .slice none 0 0, .bool false, .slice none 0 0]) (places := [(0, 1), (1, 1), (2, 1), (3, 1), (4, 1), (5, 2), (7, 1), (8, 1), (9, 1)]) rfl (by kernel_rfl) rfl rfl rfl rfl rfl) ?_
  refine AN_p (x_alloc (z := .agg #[.int .i64 0, .int .i64 0, .int .i64 0, .int .i64 0, .int .i64 0, .slice none 0 0, .slice none 0 0, .slice none 0 0, .bool false, .slice none 0 0]) 101 rfl (by kernel_rfl) rfl rfl rfl rfl) ?_
  refine AN_p (x_store (n := 10) rfl rfl rfl rfl (by kernel_rfl) rfl rfl rfl) ?_
  refine AN_nil ?_
  refine AW_seq ?_
  refine AW_seq ?_
  refine AW_regionN ?_
  refine AN_p (x_move rfl rfl) ?_
  have d14 := dBelow_lt b (dBelow b (dBelow b (dBelow b c 6).2 4).2 9).2 (n := 3) (by decide)
  refine AN_p (x_call (ks := []) (L := [(200, some _)]) (L' := [(200, some _)]) rfl rfl rfl (below_c b (dBelow b (dBelow b (dBelow b c 6).2 4).2 9).2 hb 3) rfl AllV.rf (caught_of rfl) rfl rfl rfl ⟨rfl, trivial⟩ rfl) ?_
  refine AN_b (x_eql rfl rfl rfl) (fun b15 h15 => ?_)
  refine AN_nil ?_
  cases b15
  · try simp only [tdy] at h15
    refine AW_condF rfl ?_
    refine AW_skip ?_
    refine AW_seq ?_
    refine AW_seq ?_
    refine AW_regionN ?_
    refine AN_p (x_move rfl rfl) ?_
    have d18 := dBelow_lt b (dBelow b (dBelow b (dBelow b (dBelow b c 6).2 4).2 9).2 3).2 (n := 9) (by decide)
    refine AN_p (x_call (ks := []) (L := [(200, some _)]) (L' := [(200, some _)]) rfl rfl rfl (below_c b (dBelow b (dBelow b (dBelow b (dBelow b c 6).2 4).2 9).2 3).2 hb 9) rfl AllV.rf (caught_of rfl) rfl rfl rfl ⟨rfl, trivial⟩ rfl) ?_
    refine AN_b (x_eql rfl rfl rfl) (fun b19 h19 => ?_)
    refine AN_nil ?_
    cases b19
    · try simp only [tdy] at h19
      refine AW_condF rfl ?_
      refine AW_skip ?_
      refine AW_seq ?_
      refine AW_seq ?_
      refine AW_regionN ?_
      refine AN_p (x_field (off := 0) (o' := 0) rfl rfl rfl (by kernel_rfl) rfl) ?_
      refine AN_p (x_load1 rfl rfl rfl (by kernel_rfl) rfl) ?_
      refine AN_b (x_eql rfl rfl rfl) (fun b24 h24 => ?_)
      refine AN_nil ?_
      cases b24
      · try simp only [tdy] at h24
        refine AW_condF rfl ?_
        refine AW_skip ?_
        refine AW_seq ?_
        refine AW_seq ?_
        refine AW_regionN ?_
        refine AN_p (x_field (off := 0) (o' := 0) rfl rfl rfl (by kernel_rfl) rfl) ?_
        refine AN_p (x_load1 rfl rfl rfl (by kernel_rfl) rfl) ?_
        refine AN_b (x_eql rfl rfl rfl) (fun b41 h41 => ?_)
        refine AN_nil ?_
        cases b41
        · try simp only [tdy] at h41
          refine AW_condF rfl ?_
          refine AW_skip ?_
          refine AW_seq ?_
          refine AW_seq ?_
          refine AW_regionN ?_
          refine AN_p (x_field (off := 0) (o' := 0) rfl rfl rfl (by kernel_rfl) rfl) ?_
          refine AN_p (x_load1 rfl rfl rfl (by kernel_rfl) rfl) ?_
          refine AN_b (x_eql rfl rfl rfl) (fun b47 h47 => ?_)
          refine AN_nil ?_
          cases b47
          · try simp only [tdy] at h47
            refine AW_condF rfl ?_
            refine AW_skip ?_
            refine AW_seq ?_
            refine AW_regionN ?_
            refine AN_p (x_loadN (n := 10) rfl rfl rfl (by kernel_rfl) rfl rfl) ?_
            refine AN_p (x_store (n := 10) rfl rfl rfl rfl (by kernel_rfl) rfl rfl rfl) ?_
            refine AN_nil ?_
            refine AW_ret ?_
            refine ⟨⟨⟨_, _, _, _, _, ⟨_, _⟩, _, _, ⟨_⟩⟩, _⟩, ?_, rn [(9, 100)], by exact ⟨⟨⟨_, rfl, VLe.rf⟩, trivial⟩, ⟨⟨_, rfl, by first | exact BLe.rf | exact BLe.box (by repeat (first | exact trivial | refine ⟨by first | exact CLe.rf | exact CLe.nil, ?_⟩))⟩, ⟨_, rfl, BLe.rf⟩, trivial⟩, by repeat (first | exact trivial | refine ⟨⟨rfl, by first | (left; intro h; cases h) | (right; rfl), by first | exact (fun _ h => ⟨_, h⟩) | exact (fun _ _ => ⟨_, rfl⟩)⟩, ?_⟩), rfl⟩⟩
            refine ⟨⟨?_, ?_⟩, ⟨?_, fun _ _ => trivial⟩, ?_⟩
            all_goals (try unfold smallHead)
            all_goals (try dsimp only)
            all_goals first | omega | exact Nat.zero_le _ | (simp only [List.length_nil]; omega)
          try simp only [tdy] at h47
          refine AW_condT rfl ?_
          refine AW_seq ?_
          refine AW_regionN ?_
          refine AN_p (x_move rfl rfl) ?_
          have d49 := dBelow_lt b (dBelow b (dBelow b (dBelow b (dBelow b (dBelow b c 6).2 4).2 9).2 3).2 9).2 (n := 2) (by decide)
          refine AN_p (x_call (ks := []) (L := [(200, some _)]) (L' := [(200, some _)]) rfl rfl rfl (below_c b (dBelow b (dBelow b (dBelow b (dBelow b (dBelow b c 6).2 4).2 9).2 3).2 9).2 hb 2) rfl AllV.rf (caught_of rfl) rfl rfl rfl ⟨rfl, trivial⟩ rfl) ?_
          refine AN_b (x_eql rfl rfl rfl) (fun b50 h50 => ?_)
          refine AN_p (x_field (off := 8) (o' := 8) rfl rfl rfl (by kernel_rfl) rfl) ?_
          refine AN_p (x_store (n := 1) rfl rfl rfl rfl (by kernel_rfl) rfl rfl rfl) ?_
          refine AN_nil ?_
          refine AW_regionN ?_
          refine AN_p (x_move rfl rfl) ?_
          refine AN_x (L := [(200, some (curB b (dBelow b (dBelow b (dBelow b (dBelow b (dBelow b (dBelow b c 6).2 4).2 9).2 3).2 9).2 2).2))]) rfl rfl rfl (head_x b (dBelow b (dBelow b (dBelow b (dBelow b (dBelow b (dBelow b c 6).2 4).2 9).2 3).2 9).2 2).2 hb) rfl rfl (fun _ => rfl) (fun _ => rfl) ⟨rfl, trivial⟩ (fun _ => rfl) ?_
          rintro ⟨y53, c53⟩ g53
          dsimp only at g53 ⊢
          refine AN_p (x_field (off := 9) (o' := 9) rfl rfl rfl (by kernel_rfl) rfl) ?_
          refine AN_p (x_store (n := 1) rfl rfl rfl rfl (by kernel_rfl) rfl rfl rfl) ?_
          refine AN_nil ?_
          refine AW_seq ?_
          refine AW_regionN ?_
          refine AN_p (x_loadN (n := 10) rfl rfl rfl (by kernel_rfl) rfl rfl) ?_
          refine AN_p (x_store (n := 10) rfl rfl rfl rfl (by kernel_rfl) rfl rfl rfl) ?_
          refine AN_nil ?_
          refine AW_shutB 300 100 9 rfl rfl rfl rfl ?_
          refine AW_ret ?_
          refine ⟨⟨⟨_, _, _, _, _, ⟨_, _⟩, _, _, ⟨_⟩⟩, _⟩, ?_, rn [(9, 100)], by exact ⟨⟨⟨_, rfl, VLe.rf⟩, trivial⟩, ⟨⟨_, rfl, by first | exact BLe.rf | exact BLe.box (by repeat (first | exact trivial | refine ⟨by first | exact CLe.rf | exact CLe.nil, ?_⟩))⟩, ⟨_, rfl, BLe.rf⟩, trivial⟩, by repeat (first | exact trivial | refine ⟨⟨rfl, by first | (left; intro h; cases h) | (right; rfl), by first | exact (fun _ h => ⟨_, h⟩) | exact (fun _ _ => ⟨_, rfl⟩)⟩, ?_⟩), rfl⟩⟩
          refine ⟨⟨?_, ?_⟩, ⟨?_, fun _ _ => trivial⟩, ?_⟩
          all_goals (try unfold smallHead)
          all_goals (try dsimp only)
          all_goals first | omega | exact Nat.zero_le _ | (simp only [List.length_nil]; omega)
        try simp only [tdy] at h41
        refine AW_condT rfl ?_
        refine AW_regionN ?_
        refine AN_p (x_move rfl rfl) ?_
        have d43 := dBelow_lt b (dBelow b (dBelow b (dBelow b (dBelow b (dBelow b c 6).2 4).2 9).2 3).2 9).2 (n := 5) (by decide)
        refine AN_p (x_call (ks := []) (L := [(200, some _)]) (L' := [(200, some _)]) rfl rfl rfl (below_c b (dBelow b (dBelow b (dBelow b (dBelow b (dBelow b c 6).2 4).2 9).2 3).2 9).2 hb 5) rfl AllV.rf (caught_of rfl) rfl rfl rfl ⟨rfl, trivial⟩ rfl) ?_
        refine AN_p (x_field (off := 3) (o' := 3) rfl rfl rfl (by kernel_rfl) rfl) ?_
        refine AN_p (x_store (n := 1) rfl rfl rfl rfl (by kernel_rfl) rfl rfl rfl) ?_
        refine AN_nil ?_
        refine AW_seq ?_
        refine AW_seq ?_
        refine AW_regionN ?_
        refine AN_p (x_field (off := 0) (o' := 0) rfl rfl rfl (by kernel_rfl) rfl) ?_
        refine AN_p (x_load1 rfl rfl rfl (by kernel_rfl) rfl) ?_
        refine AN_b (x_eql rfl rfl rfl) (fun b47 h47 => ?_)
        refine AN_nil ?_
        cases b47
        · try simp only [tdy] at h47
          refine AW_condF rfl ?_
          refine AW_skip ?_
          refine AW_seq ?_
          refine AW_regionN ?_
          refine AN_p (x_loadN (n := 10) rfl rfl rfl (by kernel_rfl) rfl rfl) ?_
          refine AN_p (x_store (n := 10) rfl rfl rfl rfl (by kernel_rfl) rfl rfl rfl) ?_
          refine AN_nil ?_
          refine AW_ret ?_
          refine ⟨⟨⟨_, _, _, _, _, ⟨_, _⟩, _, _, ⟨_⟩⟩, _⟩, ?_, rn [(9, 100)], by exact ⟨⟨⟨_, rfl, VLe.rf⟩, trivial⟩, ⟨⟨_, rfl, by first | exact BLe.rf | exact BLe.box (by repeat (first | exact trivial | refine ⟨by first | exact CLe.rf | exact CLe.nil, ?_⟩))⟩, ⟨_, rfl, BLe.rf⟩, trivial⟩, by repeat (first | exact trivial | refine ⟨⟨rfl, by first | (left; intro h; cases h) | (right; rfl), by first | exact (fun _ h => ⟨_, h⟩) | exact (fun _ _ => ⟨_, rfl⟩)⟩, ?_⟩), rfl⟩⟩
          refine ⟨⟨?_, ?_⟩, ⟨?_, fun _ _ => trivial⟩, ?_⟩
          all_goals (try unfold smallHead)
          all_goals (try dsimp only)
          all_goals first | omega | exact Nat.zero_le _ | (simp only [List.length_nil]; omega)
        try simp only [tdy] at h47
        refine AW_condT rfl ?_
        refine AW_seq ?_
        refine AW_regionN ?_
        refine AN_p (x_move rfl rfl) ?_
        have d49 := dBelow_lt b (dBelow b (dBelow b (dBelow b (dBelow b (dBelow b (dBelow b c 6).2 4).2 9).2 3).2 9).2 5).2 (n := 2) (by decide)
        refine AN_p (x_call (ks := []) (L := [(200, some _)]) (L' := [(200, some _)]) rfl rfl rfl (below_c b (dBelow b (dBelow b (dBelow b (dBelow b (dBelow b (dBelow b c 6).2 4).2 9).2 3).2 9).2 5).2 hb 2) rfl AllV.rf (caught_of rfl) rfl rfl rfl ⟨rfl, trivial⟩ rfl) ?_
        refine AN_b (x_eql rfl rfl rfl) (fun b50 h50 => ?_)
        refine AN_p (x_field (off := 8) (o' := 8) rfl rfl rfl (by kernel_rfl) rfl) ?_
        refine AN_p (x_store (n := 1) rfl rfl rfl rfl (by kernel_rfl) rfl rfl rfl) ?_
        refine AN_nil ?_
        refine AW_regionN ?_
        refine AN_p (x_move rfl rfl) ?_
        refine AN_x (L := [(200, some (curB b (dBelow b (dBelow b (dBelow b (dBelow b (dBelow b (dBelow b (dBelow b c 6).2 4).2 9).2 3).2 9).2 5).2 2).2))]) rfl rfl rfl (head_x b (dBelow b (dBelow b (dBelow b (dBelow b (dBelow b (dBelow b (dBelow b c 6).2 4).2 9).2 3).2 9).2 5).2 2).2 hb) rfl rfl (fun _ => rfl) (fun _ => rfl) ⟨rfl, trivial⟩ (fun _ => rfl) ?_
        rintro ⟨y53, c53⟩ g53
        dsimp only at g53 ⊢
        refine AN_p (x_field (off := 9) (o' := 9) rfl rfl rfl (by kernel_rfl) rfl) ?_
        refine AN_p (x_store (n := 1) rfl rfl rfl rfl (by kernel_rfl) rfl rfl rfl) ?_
        refine AN_nil ?_
        refine AW_seq ?_
        refine AW_regionN ?_
        refine AN_p (x_loadN (n := 10) rfl rfl rfl (by kernel_rfl) rfl rfl) ?_
        refine AN_p (x_store (n := 10) rfl rfl rfl rfl (by kernel_rfl) rfl rfl rfl) ?_
        refine AN_nil ?_
        refine AW_shutB 300 100 9 rfl rfl rfl rfl ?_
        refine AW_ret ?_
        refine ⟨⟨⟨_, _, _, _, _, ⟨_, _⟩, _, _, ⟨_⟩⟩, _⟩, ?_, rn [(9, 100)], by exact ⟨⟨⟨_, rfl, VLe.rf⟩, trivial⟩, ⟨⟨_, rfl, by first | exact BLe.rf | exact BLe.box (by repeat (first | exact trivial | refine ⟨by first | exact CLe.rf | exact CLe.nil, ?_⟩))⟩, ⟨_, rfl, BLe.rf⟩, trivial⟩, by repeat (first | exact trivial | refine ⟨⟨rfl, by first | (left; intro h; cases h) | (right; rfl), by first | exact (fun _ h => ⟨_, h⟩) | exact (fun _ _ => ⟨_, rfl⟩)⟩, ?_⟩), rfl⟩⟩
        refine ⟨⟨?_, ?_⟩, ⟨?_, fun _ _ => trivial⟩, ?_⟩
        all_goals (try unfold smallHead)
        all_goals (try dsimp only)
        all_goals first | omega | exact Nat.zero_le _ | (simp only [List.length_nil]; omega)
      try simp only [tdy] at h24
      refine AW_condT rfl ?_
      refine AW_seq ?_
      refine AW_regionN ?_
      refine AN_p (x_move rfl rfl) ?_
      refine AN_x (L := [(200, some (curB b (dBelow b (dBelow b (dBelow b (dBelow b (dBelow b c 6).2 4).2 9).2 3).2 9).2))]) rfl rfl rfl (entry_x b (dBelow b (dBelow b (dBelow b (dBelow b (dBelow b c 6).2 4).2 9).2 3).2 9).2 hb) rfl rfl (fun _ => rfl) (fun _ => rfl) ⟨rfl, trivial⟩ (fun _ => rfl) ?_
      rintro ⟨x26, c26⟩ g26
      dsimp only at g26 ⊢
      obtain ⟨ga, gb, gc⟩ := g26
      obtain ⟨e1, e2, ⟨mv, mm⟩, ac, e3⟩ := x26
      dsimp only at ga gb gc ⊢
      refine AN_p (x_alloc (z := .agg #[.int .i64 0, .int .i64 0, .slice none 0 0, .slice none 0 0, .slice none 0 0, .int .i64 0]) 102 rfl (by kernel_rfl) rfl rfl rfl rfl) ?_
      refine AN_p (x_store (n := 6) rfl rfl rfl rfl (by kernel_rfl) rfl rfl rfl) ?_
      refine AN_nil ?_
      refine AW_seq ?_
      refine AW_regionN ?_
      refine AN_p (x_field (off := 0) (o' := 0) rfl rfl rfl (by kernel_rfl) rfl) ?_
      refine AN_p (x_load1 rfl rfl rfl (by kernel_rfl) rfl) ?_
      refine AN_p (x_field (off := 3) (o' := 3) rfl rfl rfl (by kernel_rfl) rfl) ?_
      refine AN_p (x_store (n := 1) rfl rfl rfl rfl (by kernel_rfl) rfl rfl rfl) ?_
      refine AN_nil ?_
      refine AW_seq ?_
      refine AW_regionN ?_
      refine AN_p (x_field (off := 1) (o' := 1) rfl rfl rfl (by kernel_rfl) rfl) ?_
      refine AN_p (x_load1 rfl rfl rfl (by kernel_rfl) rfl) ?_
      refine AN_p (x_field (off := 4) (o' := 4) rfl rfl rfl (by kernel_rfl) rfl) ?_
      refine AN_p (x_store (n := 1) rfl rfl rfl rfl (by kernel_rfl) rfl rfl rfl) ?_
      refine AN_nil ?_
      refine AW_seq ?_
      refine AW_regionN ?_
      refine AN_p (x_field (off := 2) (o' := 2) rfl rfl rfl (by kernel_rfl) rfl) ?_
      refine AN_p (x_loadN (n := 2) rfl rfl rfl (by kernel_rfl) rfl rfl) ?_
      refine AN_p (x_field (off := 5) (o' := 5) rfl rfl rfl (by kernel_rfl) rfl) ?_
      refine AN_p (x_store (n := 2) rfl rfl rfl rfl (by kernel_rfl) rfl rfl rfl) ?_
      refine AN_nil ?_
      refine AW_regionN ?_
      refine AN_p (x_field (off := 4) (o' := 4) rfl rfl rfl (by kernel_rfl) rfl) ?_
      refine AN_p (x_load1 rfl rfl rfl (by kernel_rfl) rfl) ?_
      refine AN_p (x_field (off := 7) (o' := 7) rfl rfl rfl (by kernel_rfl) rfl) ?_
      refine AN_p (x_store (n := 1) rfl rfl rfl rfl (by kernel_rfl) rfl rfl rfl) ?_
      refine AN_nil ?_
      refine AW_seq ?_
      refine AW_seq ?_
      refine AW_regionN ?_
      refine AN_p (x_field (off := 0) (o' := 0) rfl rfl rfl (by kernel_rfl) rfl) ?_
      refine AN_p (x_load1 rfl rfl rfl (by kernel_rfl) rfl) ?_
      refine AN_b (x_eql rfl rfl rfl) (fun b41 h41 => ?_)
      refine AN_nil ?_
      cases b41
      · try simp only [tdy] at h41
        refine AW_condF rfl ?_
        refine AW_skip ?_
        refine AW_seq ?_
        refine AW_seq ?_
        refine AW_regionN ?_
        refine AN_p (x_field (off := 0) (o' := 0) rfl rfl rfl (by kernel_rfl) rfl) ?_
        refine AN_p (x_load1 rfl rfl rfl (by kernel_rfl) rfl) ?_
        refine AN_b (x_eql rfl rfl rfl) (fun b47 h47 => ?_)
        refine AN_nil ?_
        cases b47
        · try simp only [tdy] at h47
          refine AW_condF rfl ?_
          refine AW_skip ?_
          refine AW_seq ?_
          refine AW_regionN ?_
          refine AN_p (x_loadN (n := 10) rfl rfl rfl (by kernel_rfl) rfl rfl) ?_
          refine AN_p (x_store (n := 10) rfl rfl rfl rfl (by kernel_rfl) rfl rfl rfl) ?_
          refine AN_nil ?_
          refine AW_ret ?_
          refine ⟨⟨⟨_, _, _, _, _, ⟨_, _⟩, _, _, ⟨_⟩⟩, _⟩, ?_, rn [(9, 100)], by exact ⟨⟨⟨_, rfl, VLe.rf⟩, trivial⟩, ⟨⟨_, rfl, by first | exact BLe.rf | exact BLe.box (by repeat (first | exact trivial | refine ⟨by first | exact CLe.rf | exact CLe.nil, ?_⟩))⟩, ⟨_, rfl, BLe.rf⟩, trivial⟩, by repeat (first | exact trivial | refine ⟨⟨rfl, by first | (left; intro h; cases h) | (right; rfl), by first | exact (fun _ h => ⟨_, h⟩) | exact (fun _ _ => ⟨_, rfl⟩)⟩, ?_⟩), rfl⟩⟩
          refine ⟨⟨?_, ?_⟩, ⟨?_, fun _ _ => trivial⟩, ?_⟩
          all_goals (try unfold smallHead)
          all_goals (try dsimp only)
          all_goals first | omega | exact Nat.zero_le _ | (simp only [List.length_nil]; omega)
        try simp only [tdy] at h47
        refine AW_condT rfl ?_
        refine AW_seq ?_
        refine AW_regionN ?_
        refine AN_p (x_move rfl rfl) ?_
        have d49 := dBelow_lt b c26 (n := 2) (by decide)
        refine AN_p (x_call (ks := []) (L := [(200, some _)]) (L' := [(200, some _)]) rfl rfl rfl (below_c b c26 hb 2) rfl AllV.rf (caught_of rfl) rfl rfl rfl ⟨rfl, trivial⟩ rfl) ?_
        refine AN_b (x_eql rfl rfl rfl) (fun b50 h50 => ?_)
        refine AN_p (x_field (off := 8) (o' := 8) rfl rfl rfl (by kernel_rfl) rfl) ?_
        refine AN_p (x_store (n := 1) rfl rfl rfl rfl (by kernel_rfl) rfl rfl rfl) ?_
        refine AN_nil ?_
        refine AW_regionN ?_
        refine AN_p (x_move rfl rfl) ?_
        refine AN_x (L := [(200, some (curB b (dBelow b c26 2).2))]) rfl rfl rfl (head_x b (dBelow b c26 2).2 hb) rfl rfl (fun _ => rfl) (fun _ => rfl) ⟨rfl, trivial⟩ (fun _ => rfl) ?_
        rintro ⟨y53, c53⟩ g53
        dsimp only at g53 ⊢
        refine AN_p (x_field (off := 9) (o' := 9) rfl rfl rfl (by kernel_rfl) rfl) ?_
        refine AN_p (x_store (n := 1) rfl rfl rfl rfl (by kernel_rfl) rfl rfl rfl) ?_
        refine AN_nil ?_
        refine AW_seq ?_
        refine AW_regionN ?_
        refine AN_p (x_loadN (n := 10) rfl rfl rfl (by kernel_rfl) rfl rfl) ?_
        refine AN_p (x_store (n := 10) rfl rfl rfl rfl (by kernel_rfl) rfl rfl rfl) ?_
        refine AN_nil ?_
        refine AW_shutB 300 100 9 rfl rfl rfl rfl ?_
        refine AW_ret ?_
        refine ⟨⟨⟨_, _, _, _, _, ⟨_, _⟩, _, _, ⟨_⟩⟩, _⟩, ?_, rn [(9, 100)], by exact ⟨⟨⟨_, rfl, VLe.rf⟩, trivial⟩, ⟨⟨_, rfl, by first | exact BLe.rf | exact BLe.box (by repeat (first | exact trivial | refine ⟨by first | exact CLe.rf | exact CLe.nil, ?_⟩))⟩, ⟨_, rfl, BLe.rf⟩, trivial⟩, by repeat (first | exact trivial | refine ⟨⟨rfl, by first | (left; intro h; cases h) | (right; rfl), by first | exact (fun _ h => ⟨_, h⟩) | exact (fun _ _ => ⟨_, rfl⟩)⟩, ?_⟩), rfl⟩⟩
        refine ⟨⟨?_, ?_⟩, ⟨?_, fun _ _ => trivial⟩, ?_⟩
        all_goals (try unfold smallHead)
        all_goals (try dsimp only)
        all_goals first | omega | exact Nat.zero_le _ | (simp only [List.length_nil]; omega)
      try simp only [tdy] at h41
      refine AW_condT rfl ?_
      refine AW_regionN ?_
      refine AN_p (x_move rfl rfl) ?_
      have d43 := dBelow_lt b c26 (n := 5) (by decide)
      refine AN_p (x_call (ks := []) (L := [(200, some _)]) (L' := [(200, some _)]) rfl rfl rfl (below_c b c26 hb 5) rfl AllV.rf (caught_of rfl) rfl rfl rfl ⟨rfl, trivial⟩ rfl) ?_
      refine AN_p (x_field (off := 3) (o' := 3) rfl rfl rfl (by kernel_rfl) rfl) ?_
      refine AN_p (x_store (n := 1) rfl rfl rfl rfl (by kernel_rfl) rfl rfl rfl) ?_
      refine AN_nil ?_
      refine AW_seq ?_
      refine AW_seq ?_
      refine AW_regionN ?_
      refine AN_p (x_field (off := 0) (o' := 0) rfl rfl rfl (by kernel_rfl) rfl) ?_
      refine AN_p (x_load1 rfl rfl rfl (by kernel_rfl) rfl) ?_
      refine AN_b (x_eql rfl rfl rfl) (fun b47 h47 => ?_)
      refine AN_nil ?_
      cases b47
      · try simp only [tdy] at h47
        refine AW_condF rfl ?_
        refine AW_skip ?_
        refine AW_seq ?_
        refine AW_regionN ?_
        refine AN_p (x_loadN (n := 10) rfl rfl rfl (by kernel_rfl) rfl rfl) ?_
        refine AN_p (x_store (n := 10) rfl rfl rfl rfl (by kernel_rfl) rfl rfl rfl) ?_
        refine AN_nil ?_
        refine AW_ret ?_
        refine ⟨⟨⟨_, _, _, _, _, ⟨_, _⟩, _, _, ⟨_⟩⟩, _⟩, ?_, rn [(9, 100)], by exact ⟨⟨⟨_, rfl, VLe.rf⟩, trivial⟩, ⟨⟨_, rfl, by first | exact BLe.rf | exact BLe.box (by repeat (first | exact trivial | refine ⟨by first | exact CLe.rf | exact CLe.nil, ?_⟩))⟩, ⟨_, rfl, BLe.rf⟩, trivial⟩, by repeat (first | exact trivial | refine ⟨⟨rfl, by first | (left; intro h; cases h) | (right; rfl), by first | exact (fun _ h => ⟨_, h⟩) | exact (fun _ _ => ⟨_, rfl⟩)⟩, ?_⟩), rfl⟩⟩
        refine ⟨⟨?_, ?_⟩, ⟨?_, fun _ _ => trivial⟩, ?_⟩
        all_goals (try unfold smallHead)
        all_goals (try dsimp only)
        all_goals first | omega | exact Nat.zero_le _ | (simp only [List.length_nil]; omega)
      try simp only [tdy] at h47
      refine AW_condT rfl ?_
      refine AW_seq ?_
      refine AW_regionN ?_
      refine AN_p (x_move rfl rfl) ?_
      have d49 := dBelow_lt b (dBelow b c26 5).2 (n := 2) (by decide)
      refine AN_p (x_call (ks := []) (L := [(200, some _)]) (L' := [(200, some _)]) rfl rfl rfl (below_c b (dBelow b c26 5).2 hb 2) rfl AllV.rf (caught_of rfl) rfl rfl rfl ⟨rfl, trivial⟩ rfl) ?_
      refine AN_b (x_eql rfl rfl rfl) (fun b50 h50 => ?_)
      refine AN_p (x_field (off := 8) (o' := 8) rfl rfl rfl (by kernel_rfl) rfl) ?_
      refine AN_p (x_store (n := 1) rfl rfl rfl rfl (by kernel_rfl) rfl rfl rfl) ?_
      refine AN_nil ?_
      refine AW_regionN ?_
      refine AN_p (x_move rfl rfl) ?_
      refine AN_x (L := [(200, some (curB b (dBelow b (dBelow b c26 5).2 2).2))]) rfl rfl rfl (head_x b (dBelow b (dBelow b c26 5).2 2).2 hb) rfl rfl (fun _ => rfl) (fun _ => rfl) ⟨rfl, trivial⟩ (fun _ => rfl) ?_
      rintro ⟨y53, c53⟩ g53
      dsimp only at g53 ⊢
      refine AN_p (x_field (off := 9) (o' := 9) rfl rfl rfl (by kernel_rfl) rfl) ?_
      refine AN_p (x_store (n := 1) rfl rfl rfl rfl (by kernel_rfl) rfl rfl rfl) ?_
      refine AN_nil ?_
      refine AW_seq ?_
      refine AW_regionN ?_
      refine AN_p (x_loadN (n := 10) rfl rfl rfl (by kernel_rfl) rfl rfl) ?_
      refine AN_p (x_store (n := 10) rfl rfl rfl rfl (by kernel_rfl) rfl rfl rfl) ?_
      refine AN_nil ?_
      refine AW_shutB 300 100 9 rfl rfl rfl rfl ?_
      refine AW_ret ?_
      refine ⟨⟨⟨_, _, _, _, _, ⟨_, _⟩, _, _, ⟨_⟩⟩, _⟩, ?_, rn [(9, 100)], by exact ⟨⟨⟨_, rfl, VLe.rf⟩, trivial⟩, ⟨⟨_, rfl, by first | exact BLe.rf | exact BLe.box (by repeat (first | exact trivial | refine ⟨by first | exact CLe.rf | exact CLe.nil, ?_⟩))⟩, ⟨_, rfl, BLe.rf⟩, trivial⟩, by repeat (first | exact trivial | refine ⟨⟨rfl, by first | (left; intro h; cases h) | (right; rfl), by first | exact (fun _ h => ⟨_, h⟩) | exact (fun _ _ => ⟨_, rfl⟩)⟩, ?_⟩), rfl⟩⟩
      refine ⟨⟨?_, ?_⟩, ⟨?_, fun _ _ => trivial⟩, ?_⟩
      all_goals (try unfold smallHead)
      all_goals (try dsimp only)
      all_goals first | omega | exact Nat.zero_le _ | (simp only [List.length_nil]; omega)
    try simp only [tdy] at h19
    refine AW_condT rfl ?_
    refine AW_seq ?_
    refine AW_regionN ?_
    refine AN_p (x_field (off := 1) (o' := 1) rfl rfl rfl (by kernel_rfl) rfl) ?_
    refine AN_p (x_store (n := 1) rfl rfl rfl rfl (by kernel_rfl) rfl rfl rfl) ?_
    refine AN_nil ?_
    refine AW_regionN ?_
    refine AN_p (x_field (off := 2) (o' := 2) rfl rfl rfl (by kernel_rfl) rfl) ?_
    refine AN_p (x_store (n := 1) rfl rfl rfl rfl (by kernel_rfl) rfl rfl rfl) ?_
    refine AN_nil ?_
    refine AW_seq ?_
    refine AW_seq ?_
    refine AW_regionN ?_
    refine AN_p (x_field (off := 0) (o' := 0) rfl rfl rfl (by kernel_rfl) rfl) ?_
    refine AN_p (x_load1 rfl rfl rfl (by kernel_rfl) rfl) ?_
    refine AN_b (x_eql rfl rfl rfl) (fun b24 h24 => ?_)
    refine AN_nil ?_
    cases b24
    · try simp only [tdy] at h24
      refine AW_condF rfl ?_
      refine AW_skip ?_
      refine AW_seq ?_
      refine AW_seq ?_
      refine AW_regionN ?_
      refine AN_p (x_field (off := 0) (o' := 0) rfl rfl rfl (by kernel_rfl) rfl) ?_
      refine AN_p (x_load1 rfl rfl rfl (by kernel_rfl) rfl) ?_
      refine AN_b (x_eql rfl rfl rfl) (fun b41 h41 => ?_)
      refine AN_nil ?_
      cases b41
      · try simp only [tdy] at h41
        refine AW_condF rfl ?_
        refine AW_skip ?_
        refine AW_seq ?_
        refine AW_seq ?_
        refine AW_regionN ?_
        refine AN_p (x_field (off := 0) (o' := 0) rfl rfl rfl (by kernel_rfl) rfl) ?_
        refine AN_p (x_load1 rfl rfl rfl (by kernel_rfl) rfl) ?_
        refine AN_b (x_eql rfl rfl rfl) (fun b47 h47 => ?_)
        refine AN_nil ?_
        cases b47
        · try simp only [tdy] at h47
          refine AW_condF rfl ?_
          refine AW_skip ?_
          refine AW_seq ?_
          refine AW_regionN ?_
          refine AN_p (x_loadN (n := 10) rfl rfl rfl (by kernel_rfl) rfl rfl) ?_
          refine AN_p (x_store (n := 10) rfl rfl rfl rfl (by kernel_rfl) rfl rfl rfl) ?_
          refine AN_nil ?_
          refine AW_ret ?_
          refine ⟨⟨⟨_, _, _, _, _, ⟨_, _⟩, _, _, ⟨_⟩⟩, _⟩, ?_, rn [(9, 100)], by exact ⟨⟨⟨_, rfl, VLe.rf⟩, trivial⟩, ⟨⟨_, rfl, by first | exact BLe.rf | exact BLe.box (by repeat (first | exact trivial | refine ⟨by first | exact CLe.rf | exact CLe.nil, ?_⟩))⟩, ⟨_, rfl, BLe.rf⟩, trivial⟩, by repeat (first | exact trivial | refine ⟨⟨rfl, by first | (left; intro h; cases h) | (right; rfl), by first | exact (fun _ h => ⟨_, h⟩) | exact (fun _ _ => ⟨_, rfl⟩)⟩, ?_⟩), rfl⟩⟩
          refine ⟨⟨?_, ?_⟩, ⟨?_, fun _ _ => trivial⟩, ?_⟩
          all_goals (try unfold smallHead)
          all_goals (try dsimp only)
          all_goals first | omega | exact Nat.zero_le _ | (simp only [List.length_nil]; omega)
        try simp only [tdy] at h47
        refine AW_condT rfl ?_
        refine AW_seq ?_
        refine AW_regionN ?_
        refine AN_p (x_move rfl rfl) ?_
        have d49 := dBelow_lt b (dBelow b (dBelow b (dBelow b (dBelow b (dBelow b c 6).2 4).2 9).2 3).2 9).2 (n := 2) (by decide)
        refine AN_p (x_call (ks := []) (L := [(200, some _)]) (L' := [(200, some _)]) rfl rfl rfl (below_c b (dBelow b (dBelow b (dBelow b (dBelow b (dBelow b c 6).2 4).2 9).2 3).2 9).2 hb 2) rfl AllV.rf (caught_of rfl) rfl rfl rfl ⟨rfl, trivial⟩ rfl) ?_
        refine AN_b (x_eql rfl rfl rfl) (fun b50 h50 => ?_)
        refine AN_p (x_field (off := 8) (o' := 8) rfl rfl rfl (by kernel_rfl) rfl) ?_
        refine AN_p (x_store (n := 1) rfl rfl rfl rfl (by kernel_rfl) rfl rfl rfl) ?_
        refine AN_nil ?_
        refine AW_regionN ?_
        refine AN_p (x_move rfl rfl) ?_
        refine AN_x (L := [(200, some (curB b (dBelow b (dBelow b (dBelow b (dBelow b (dBelow b (dBelow b c 6).2 4).2 9).2 3).2 9).2 2).2))]) rfl rfl rfl (head_x b (dBelow b (dBelow b (dBelow b (dBelow b (dBelow b (dBelow b c 6).2 4).2 9).2 3).2 9).2 2).2 hb) rfl rfl (fun _ => rfl) (fun _ => rfl) ⟨rfl, trivial⟩ (fun _ => rfl) ?_
        rintro ⟨y53, c53⟩ g53
        dsimp only at g53 ⊢
        refine AN_p (x_field (off := 9) (o' := 9) rfl rfl rfl (by kernel_rfl) rfl) ?_
        refine AN_p (x_store (n := 1) rfl rfl rfl rfl (by kernel_rfl) rfl rfl rfl) ?_
        refine AN_nil ?_
        refine AW_seq ?_
        refine AW_regionN ?_
        refine AN_p (x_loadN (n := 10) rfl rfl rfl (by kernel_rfl) rfl rfl) ?_
        refine AN_p (x_store (n := 10) rfl rfl rfl rfl (by kernel_rfl) rfl rfl rfl) ?_
        refine AN_nil ?_
        refine AW_shutB 300 100 9 rfl rfl rfl rfl ?_
        refine AW_ret ?_
        refine ⟨⟨⟨_, _, _, _, _, ⟨_, _⟩, _, _, ⟨_⟩⟩, _⟩, ?_, rn [(9, 100)], by exact ⟨⟨⟨_, rfl, VLe.rf⟩, trivial⟩, ⟨⟨_, rfl, by first | exact BLe.rf | exact BLe.box (by repeat (first | exact trivial | refine ⟨by first | exact CLe.rf | exact CLe.nil, ?_⟩))⟩, ⟨_, rfl, BLe.rf⟩, trivial⟩, by repeat (first | exact trivial | refine ⟨⟨rfl, by first | (left; intro h; cases h) | (right; rfl), by first | exact (fun _ h => ⟨_, h⟩) | exact (fun _ _ => ⟨_, rfl⟩)⟩, ?_⟩), rfl⟩⟩
        refine ⟨⟨?_, ?_⟩, ⟨?_, fun _ _ => trivial⟩, ?_⟩
        all_goals (try unfold smallHead)
        all_goals (try dsimp only)
        all_goals first | omega | exact Nat.zero_le _ | (simp only [List.length_nil]; omega)
      try simp only [tdy] at h41
      refine AW_condT rfl ?_
      refine AW_regionN ?_
      refine AN_p (x_move rfl rfl) ?_
      have d43 := dBelow_lt b (dBelow b (dBelow b (dBelow b (dBelow b (dBelow b c 6).2 4).2 9).2 3).2 9).2 (n := 5) (by decide)
      refine AN_p (x_call (ks := []) (L := [(200, some _)]) (L' := [(200, some _)]) rfl rfl rfl (below_c b (dBelow b (dBelow b (dBelow b (dBelow b (dBelow b c 6).2 4).2 9).2 3).2 9).2 hb 5) rfl AllV.rf (caught_of rfl) rfl rfl rfl ⟨rfl, trivial⟩ rfl) ?_
      refine AN_p (x_field (off := 3) (o' := 3) rfl rfl rfl (by kernel_rfl) rfl) ?_
      refine AN_p (x_store (n := 1) rfl rfl rfl rfl (by kernel_rfl) rfl rfl rfl) ?_
      refine AN_nil ?_
      refine AW_seq ?_
      refine AW_seq ?_
      refine AW_regionN ?_
      refine AN_p (x_field (off := 0) (o' := 0) rfl rfl rfl (by kernel_rfl) rfl) ?_
      refine AN_p (x_load1 rfl rfl rfl (by kernel_rfl) rfl) ?_
      refine AN_b (x_eql rfl rfl rfl) (fun b47 h47 => ?_)
      refine AN_nil ?_
      cases b47
      · try simp only [tdy] at h47
        refine AW_condF rfl ?_
        refine AW_skip ?_
        refine AW_seq ?_
        refine AW_regionN ?_
        refine AN_p (x_loadN (n := 10) rfl rfl rfl (by kernel_rfl) rfl rfl) ?_
        refine AN_p (x_store (n := 10) rfl rfl rfl rfl (by kernel_rfl) rfl rfl rfl) ?_
        refine AN_nil ?_
        refine AW_ret ?_
        refine ⟨⟨⟨_, _, _, _, _, ⟨_, _⟩, _, _, ⟨_⟩⟩, _⟩, ?_, rn [(9, 100)], by exact ⟨⟨⟨_, rfl, VLe.rf⟩, trivial⟩, ⟨⟨_, rfl, by first | exact BLe.rf | exact BLe.box (by repeat (first | exact trivial | refine ⟨by first | exact CLe.rf | exact CLe.nil, ?_⟩))⟩, ⟨_, rfl, BLe.rf⟩, trivial⟩, by repeat (first | exact trivial | refine ⟨⟨rfl, by first | (left; intro h; cases h) | (right; rfl), by first | exact (fun _ h => ⟨_, h⟩) | exact (fun _ _ => ⟨_, rfl⟩)⟩, ?_⟩), rfl⟩⟩
        refine ⟨⟨?_, ?_⟩, ⟨?_, fun _ _ => trivial⟩, ?_⟩
        all_goals (try unfold smallHead)
        all_goals (try dsimp only)
        all_goals first | omega | exact Nat.zero_le _ | (simp only [List.length_nil]; omega)
      try simp only [tdy] at h47
      refine AW_condT rfl ?_
      refine AW_seq ?_
      refine AW_regionN ?_
      refine AN_p (x_move rfl rfl) ?_
      have d49 := dBelow_lt b (dBelow b (dBelow b (dBelow b (dBelow b (dBelow b (dBelow b c 6).2 4).2 9).2 3).2 9).2 5).2 (n := 2) (by decide)
      refine AN_p (x_call (ks := []) (L := [(200, some _)]) (L' := [(200, some _)]) rfl rfl rfl (below_c b (dBelow b (dBelow b (dBelow b (dBelow b (dBelow b (dBelow b c 6).2 4).2 9).2 3).2 9).2 5).2 hb 2) rfl AllV.rf (caught_of rfl) rfl rfl rfl ⟨rfl, trivial⟩ rfl) ?_
      refine AN_b (x_eql rfl rfl rfl) (fun b50 h50 => ?_)
      refine AN_p (x_field (off := 8) (o' := 8) rfl rfl rfl (by kernel_rfl) rfl) ?_
      refine AN_p (x_store (n := 1) rfl rfl rfl rfl (by kernel_rfl) rfl rfl rfl) ?_
      refine AN_nil ?_
      refine AW_regionN ?_
      refine AN_p (x_move rfl rfl) ?_
      refine AN_x (L := [(200, some (curB b (dBelow b (dBelow b (dBelow b (dBelow b (dBelow b (dBelow b (dBelow b c 6).2 4).2 9).2 3).2 9).2 5).2 2).2))]) rfl rfl rfl (head_x b (dBelow b (dBelow b (dBelow b (dBelow b (dBelow b (dBelow b (dBelow b c 6).2 4).2 9).2 3).2 9).2 5).2 2).2 hb) rfl rfl (fun _ => rfl) (fun _ => rfl) ⟨rfl, trivial⟩ (fun _ => rfl) ?_
      rintro ⟨y53, c53⟩ g53
      dsimp only at g53 ⊢
      refine AN_p (x_field (off := 9) (o' := 9) rfl rfl rfl (by kernel_rfl) rfl) ?_
      refine AN_p (x_store (n := 1) rfl rfl rfl rfl (by kernel_rfl) rfl rfl rfl) ?_
      refine AN_nil ?_
      refine AW_seq ?_
      refine AW_regionN ?_
      refine AN_p (x_loadN (n := 10) rfl rfl rfl (by kernel_rfl) rfl rfl) ?_
      refine AN_p (x_store (n := 10) rfl rfl rfl rfl (by kernel_rfl) rfl rfl rfl) ?_
      refine AN_nil ?_
      refine AW_shutB 300 100 9 rfl rfl rfl rfl ?_
      refine AW_ret ?_
      refine ⟨⟨⟨_, _, _, _, _, ⟨_, _⟩, _, _, ⟨_⟩⟩, _⟩, ?_, rn [(9, 100)], by exact ⟨⟨⟨_, rfl, VLe.rf⟩, trivial⟩, ⟨⟨_, rfl, by first | exact BLe.rf | exact BLe.box (by repeat (first | exact trivial | refine ⟨by first | exact CLe.rf | exact CLe.nil, ?_⟩))⟩, ⟨_, rfl, BLe.rf⟩, trivial⟩, by repeat (first | exact trivial | refine ⟨⟨rfl, by first | (left; intro h; cases h) | (right; rfl), by first | exact (fun _ h => ⟨_, h⟩) | exact (fun _ _ => ⟨_, rfl⟩)⟩, ?_⟩), rfl⟩⟩
      refine ⟨⟨?_, ?_⟩, ⟨?_, fun _ _ => trivial⟩, ?_⟩
      all_goals (try unfold smallHead)
      all_goals (try dsimp only)
      all_goals first | omega | exact Nat.zero_le _ | (simp only [List.length_nil]; omega)
    try simp only [tdy] at h24
    refine AW_condT rfl ?_
    refine AW_seq ?_
    refine AW_regionN ?_
    refine AN_p (x_move rfl rfl) ?_
    refine AN_x (L := [(200, some (curB b (dBelow b (dBelow b (dBelow b (dBelow b (dBelow b c 6).2 4).2 9).2 3).2 9).2))]) rfl rfl rfl (entry_x b (dBelow b (dBelow b (dBelow b (dBelow b (dBelow b c 6).2 4).2 9).2 3).2 9).2 hb) rfl rfl (fun _ => rfl) (fun _ => rfl) ⟨rfl, trivial⟩ (fun _ => rfl) ?_
    rintro ⟨x26, c26⟩ g26
    dsimp only at g26 ⊢
    obtain ⟨ga, gb, gc⟩ := g26
    obtain ⟨e1, e2, ⟨mv, mm⟩, ac, e3⟩ := x26
    dsimp only at ga gb gc ⊢
    refine AN_p (x_alloc (z := .agg #[.int .i64 0, .int .i64 0, .slice none 0 0, .slice none 0 0, .slice none 0 0, .int .i64 0]) 102 rfl (by kernel_rfl) rfl rfl rfl rfl) ?_
    refine AN_p (x_store (n := 6) rfl rfl rfl rfl (by kernel_rfl) rfl rfl rfl) ?_
    refine AN_nil ?_
    refine AW_seq ?_
    refine AW_regionN ?_
    refine AN_p (x_field (off := 0) (o' := 0) rfl rfl rfl (by kernel_rfl) rfl) ?_
    refine AN_p (x_load1 rfl rfl rfl (by kernel_rfl) rfl) ?_
    refine AN_p (x_field (off := 3) (o' := 3) rfl rfl rfl (by kernel_rfl) rfl) ?_
    refine AN_p (x_store (n := 1) rfl rfl rfl rfl (by kernel_rfl) rfl rfl rfl) ?_
    refine AN_nil ?_
    refine AW_seq ?_
    refine AW_regionN ?_
    refine AN_p (x_field (off := 1) (o' := 1) rfl rfl rfl (by kernel_rfl) rfl) ?_
    refine AN_p (x_load1 rfl rfl rfl (by kernel_rfl) rfl) ?_
    refine AN_p (x_field (off := 4) (o' := 4) rfl rfl rfl (by kernel_rfl) rfl) ?_
    refine AN_p (x_store (n := 1) rfl rfl rfl rfl (by kernel_rfl) rfl rfl rfl) ?_
    refine AN_nil ?_
    refine AW_seq ?_
    refine AW_regionN ?_
    refine AN_p (x_field (off := 2) (o' := 2) rfl rfl rfl (by kernel_rfl) rfl) ?_
    refine AN_p (x_loadN (n := 2) rfl rfl rfl (by kernel_rfl) rfl rfl) ?_
    refine AN_p (x_field (off := 5) (o' := 5) rfl rfl rfl (by kernel_rfl) rfl) ?_
    refine AN_p (x_store (n := 2) rfl rfl rfl rfl (by kernel_rfl) rfl rfl rfl) ?_
    refine AN_nil ?_
    refine AW_regionN ?_
    refine AN_p (x_field (off := 4) (o' := 4) rfl rfl rfl (by kernel_rfl) rfl) ?_
    refine AN_p (x_load1 rfl rfl rfl (by kernel_rfl) rfl) ?_
    refine AN_p (x_field (off := 7) (o' := 7) rfl rfl rfl (by kernel_rfl) rfl) ?_
    refine AN_p (x_store (n := 1) rfl rfl rfl rfl (by kernel_rfl) rfl rfl rfl) ?_
    refine AN_nil ?_
    refine AW_seq ?_
    refine AW_seq ?_
    refine AW_regionN ?_
    refine AN_p (x_field (off := 0) (o' := 0) rfl rfl rfl (by kernel_rfl) rfl) ?_
    refine AN_p (x_load1 rfl rfl rfl (by kernel_rfl) rfl) ?_
    refine AN_b (x_eql rfl rfl rfl) (fun b41 h41 => ?_)
    refine AN_nil ?_
    cases b41
    · try simp only [tdy] at h41
      refine AW_condF rfl ?_
      refine AW_skip ?_
      refine AW_seq ?_
      refine AW_seq ?_
      refine AW_regionN ?_
      refine AN_p (x_field (off := 0) (o' := 0) rfl rfl rfl (by kernel_rfl) rfl) ?_
      refine AN_p (x_load1 rfl rfl rfl (by kernel_rfl) rfl) ?_
      refine AN_b (x_eql rfl rfl rfl) (fun b47 h47 => ?_)
      refine AN_nil ?_
      cases b47
      · try simp only [tdy] at h47
        refine AW_condF rfl ?_
        refine AW_skip ?_
        refine AW_seq ?_
        refine AW_regionN ?_
        refine AN_p (x_loadN (n := 10) rfl rfl rfl (by kernel_rfl) rfl rfl) ?_
        refine AN_p (x_store (n := 10) rfl rfl rfl rfl (by kernel_rfl) rfl rfl rfl) ?_
        refine AN_nil ?_
        refine AW_ret ?_
        refine ⟨⟨⟨_, _, _, _, _, ⟨_, _⟩, _, _, ⟨_⟩⟩, _⟩, ?_, rn [(9, 100)], by exact ⟨⟨⟨_, rfl, VLe.rf⟩, trivial⟩, ⟨⟨_, rfl, by first | exact BLe.rf | exact BLe.box (by repeat (first | exact trivial | refine ⟨by first | exact CLe.rf | exact CLe.nil, ?_⟩))⟩, ⟨_, rfl, BLe.rf⟩, trivial⟩, by repeat (first | exact trivial | refine ⟨⟨rfl, by first | (left; intro h; cases h) | (right; rfl), by first | exact (fun _ h => ⟨_, h⟩) | exact (fun _ _ => ⟨_, rfl⟩)⟩, ?_⟩), rfl⟩⟩
        refine ⟨⟨?_, ?_⟩, ⟨?_, fun _ _ => trivial⟩, ?_⟩
        all_goals (try unfold smallHead)
        all_goals (try dsimp only)
        all_goals first | omega | exact Nat.zero_le _ | (simp only [List.length_nil]; omega)
      try simp only [tdy] at h47
      refine AW_condT rfl ?_
      refine AW_seq ?_
      refine AW_regionN ?_
      refine AN_p (x_move rfl rfl) ?_
      have d49 := dBelow_lt b c26 (n := 2) (by decide)
      refine AN_p (x_call (ks := []) (L := [(200, some _)]) (L' := [(200, some _)]) rfl rfl rfl (below_c b c26 hb 2) rfl AllV.rf (caught_of rfl) rfl rfl rfl ⟨rfl, trivial⟩ rfl) ?_
      refine AN_b (x_eql rfl rfl rfl) (fun b50 h50 => ?_)
      refine AN_p (x_field (off := 8) (o' := 8) rfl rfl rfl (by kernel_rfl) rfl) ?_
      refine AN_p (x_store (n := 1) rfl rfl rfl rfl (by kernel_rfl) rfl rfl rfl) ?_
      refine AN_nil ?_
      refine AW_regionN ?_
      refine AN_p (x_move rfl rfl) ?_
      refine AN_x (L := [(200, some (curB b (dBelow b c26 2).2))]) rfl rfl rfl (head_x b (dBelow b c26 2).2 hb) rfl rfl (fun _ => rfl) (fun _ => rfl) ⟨rfl, trivial⟩ (fun _ => rfl) ?_
      rintro ⟨y53, c53⟩ g53
      dsimp only at g53 ⊢
      refine AN_p (x_field (off := 9) (o' := 9) rfl rfl rfl (by kernel_rfl) rfl) ?_
      refine AN_p (x_store (n := 1) rfl rfl rfl rfl (by kernel_rfl) rfl rfl rfl) ?_
      refine AN_nil ?_
      refine AW_seq ?_
      refine AW_regionN ?_
      refine AN_p (x_loadN (n := 10) rfl rfl rfl (by kernel_rfl) rfl rfl) ?_
      refine AN_p (x_store (n := 10) rfl rfl rfl rfl (by kernel_rfl) rfl rfl rfl) ?_
      refine AN_nil ?_
      refine AW_shutB 300 100 9 rfl rfl rfl rfl ?_
      refine AW_ret ?_
      refine ⟨⟨⟨_, _, _, _, _, ⟨_, _⟩, _, _, ⟨_⟩⟩, _⟩, ?_, rn [(9, 100)], by exact ⟨⟨⟨_, rfl, VLe.rf⟩, trivial⟩, ⟨⟨_, rfl, by first | exact BLe.rf | exact BLe.box (by repeat (first | exact trivial | refine ⟨by first | exact CLe.rf | exact CLe.nil, ?_⟩))⟩, ⟨_, rfl, BLe.rf⟩, trivial⟩, by repeat (first | exact trivial | refine ⟨⟨rfl, by first | (left; intro h; cases h) | (right; rfl), by first | exact (fun _ h => ⟨_, h⟩) | exact (fun _ _ => ⟨_, rfl⟩)⟩, ?_⟩), rfl⟩⟩
      refine ⟨⟨?_, ?_⟩, ⟨?_, fun _ _ => trivial⟩, ?_⟩
      all_goals (try unfold smallHead)
      all_goals (try dsimp only)
      all_goals first | omega | exact Nat.zero_le _ | (simp only [List.length_nil]; omega)
    try simp only [tdy] at h41
    refine AW_condT rfl ?_
    refine AW_regionN ?_
    refine AN_p (x_move rfl rfl) ?_
    have d43 := dBelow_lt b c26 (n := 5) (by decide)
    refine AN_p (x_call (ks := []) (L := [(200, some _)]) (L' := [(200, some _)]) rfl rfl rfl (below_c b c26 hb 5) rfl AllV.rf (caught_of rfl) rfl rfl rfl ⟨rfl, trivial⟩ rfl) ?_
    refine AN_p (x_field (off := 3) (o' := 3) rfl rfl rfl (by kernel_rfl) rfl) ?_
    refine AN_p (x_store (n := 1) rfl rfl rfl rfl (by kernel_rfl) rfl rfl rfl) ?_
    refine AN_nil ?_
    refine AW_seq ?_
    refine AW_seq ?_
    refine AW_regionN ?_
    refine AN_p (x_field (off := 0) (o' := 0) rfl rfl rfl (by kernel_rfl) rfl) ?_
    refine AN_p (x_load1 rfl rfl rfl (by kernel_rfl) rfl) ?_
    refine AN_b (x_eql rfl rfl rfl) (fun b47 h47 => ?_)
    refine AN_nil ?_
    cases b47
    · try simp only [tdy] at h47
      refine AW_condF rfl ?_
      refine AW_skip ?_
      refine AW_seq ?_
      refine AW_regionN ?_
      refine AN_p (x_loadN (n := 10) rfl rfl rfl (by kernel_rfl) rfl rfl) ?_
      refine AN_p (x_store (n := 10) rfl rfl rfl rfl (by kernel_rfl) rfl rfl rfl) ?_
      refine AN_nil ?_
      refine AW_ret ?_
      refine ⟨⟨⟨_, _, _, _, _, ⟨_, _⟩, _, _, ⟨_⟩⟩, _⟩, ?_, rn [(9, 100)], by exact ⟨⟨⟨_, rfl, VLe.rf⟩, trivial⟩, ⟨⟨_, rfl, by first | exact BLe.rf | exact BLe.box (by repeat (first | exact trivial | refine ⟨by first | exact CLe.rf | exact CLe.nil, ?_⟩))⟩, ⟨_, rfl, BLe.rf⟩, trivial⟩, by repeat (first | exact trivial | refine ⟨⟨rfl, by first | (left; intro h; cases h) | (right; rfl), by first | exact (fun _ h => ⟨_, h⟩) | exact (fun _ _ => ⟨_, rfl⟩)⟩, ?_⟩), rfl⟩⟩
      refine ⟨⟨?_, ?_⟩, ⟨?_, fun _ _ => trivial⟩, ?_⟩
      all_goals (try unfold smallHead)
      all_goals (try dsimp only)
      all_goals first | omega | exact Nat.zero_le _ | (simp only [List.length_nil]; omega)
    try simp only [tdy] at h47
    refine AW_condT rfl ?_
    refine AW_seq ?_
    refine AW_regionN ?_
    refine AN_p (x_move rfl rfl) ?_
    have d49 := dBelow_lt b (dBelow b c26 5).2 (n := 2) (by decide)
    refine AN_p (x_call (ks := []) (L := [(200, some _)]) (L' := [(200, some _)]) rfl rfl rfl (below_c b (dBelow b c26 5).2 hb 2) rfl AllV.rf (caught_of rfl) rfl rfl rfl ⟨rfl, trivial⟩ rfl) ?_
    refine AN_b (x_eql rfl rfl rfl) (fun b50 h50 => ?_)
    refine AN_p (x_field (off := 8) (o' := 8) rfl rfl rfl (by kernel_rfl) rfl) ?_
    refine AN_p (x_store (n := 1) rfl rfl rfl rfl (by kernel_rfl) rfl rfl rfl) ?_
    refine AN_nil ?_
    refine AW_regionN ?_
    refine AN_p (x_move rfl rfl) ?_
    refine AN_x (L := [(200, some (curB b (dBelow b (dBelow b c26 5).2 2).2))]) rfl rfl rfl (head_x b (dBelow b (dBelow b c26 5).2 2).2 hb) rfl rfl (fun _ => rfl) (fun _ => rfl) ⟨rfl, trivial⟩ (fun _ => rfl) ?_
    rintro ⟨y53, c53⟩ g53
    dsimp only at g53 ⊢
    refine AN_p (x_field (off := 9) (o' := 9) rfl rfl rfl (by kernel_rfl) rfl) ?_
    refine AN_p (x_store (n := 1) rfl rfl rfl rfl (by kernel_rfl) rfl rfl rfl) ?_
    refine AN_nil ?_
    refine AW_seq ?_
    refine AW_regionN ?_
    refine AN_p (x_loadN (n := 10) rfl rfl rfl (by kernel_rfl) rfl rfl) ?_
    refine AN_p (x_store (n := 10) rfl rfl rfl rfl (by kernel_rfl) rfl rfl rfl) ?_
    refine AN_nil ?_
    refine AW_shutB 300 100 9 rfl rfl rfl rfl ?_
    refine AW_ret ?_
    refine ⟨⟨⟨_, _, _, _, _, ⟨_, _⟩, _, _, ⟨_⟩⟩, _⟩, ?_, rn [(9, 100)], by exact ⟨⟨⟨_, rfl, VLe.rf⟩, trivial⟩, ⟨⟨_, rfl, by first | exact BLe.rf | exact BLe.box (by repeat (first | exact trivial | refine ⟨by first | exact CLe.rf | exact CLe.nil, ?_⟩))⟩, ⟨_, rfl, BLe.rf⟩, trivial⟩, by repeat (first | exact trivial | refine ⟨⟨rfl, by first | (left; intro h; cases h) | (right; rfl), by first | exact (fun _ h => ⟨_, h⟩) | exact (fun _ _ => ⟨_, rfl⟩)⟩, ?_⟩), rfl⟩⟩
    refine ⟨⟨?_, ?_⟩, ⟨?_, fun _ _ => trivial⟩, ?_⟩
    all_goals (try unfold smallHead)
    all_goals (try dsimp only)
    all_goals first | omega | exact Nat.zero_le _ | (simp only [List.length_nil]; omega)
  try simp only [tdy] at h15
  refine AW_condT rfl ?_
  refine AW_regionN ?_
  refine AN_p (x_field (off := 0) (o' := 0) rfl rfl rfl (by kernel_rfl) rfl) ?_
  refine AN_p (x_store (n := 1) rfl rfl rfl rfl (by kernel_rfl) rfl rfl rfl) ?_
  refine AN_nil ?_
  refine AW_seq ?_
  refine AW_seq ?_
  refine AW_regionN ?_
  refine AN_p (x_move rfl rfl) ?_
  have d18 := dBelow_lt b (dBelow b (dBelow b (dBelow b (dBelow b c 6).2 4).2 9).2 3).2 (n := 9) (by decide)
  refine AN_p (x_call (ks := []) (L := [(200, some _)]) (L' := [(200, some _)]) rfl rfl rfl (below_c b (dBelow b (dBelow b (dBelow b (dBelow b c 6).2 4).2 9).2 3).2 hb 9) rfl AllV.rf (caught_of rfl) rfl rfl rfl ⟨rfl, trivial⟩ rfl) ?_
  refine AN_b (x_eql rfl rfl rfl) (fun b19 h19 => ?_)
  refine AN_nil ?_
  cases b19
  · try simp only [tdy] at h19
    refine AW_condF rfl ?_
    refine AW_skip ?_
    refine AW_seq ?_
    refine AW_seq ?_
    refine AW_regionN ?_
    refine AN_p (x_field (off := 0) (o' := 0) rfl rfl rfl (by kernel_rfl) rfl) ?_
    refine AN_p (x_load1 rfl rfl rfl (by kernel_rfl) rfl) ?_
    refine AN_b (x_eql rfl rfl rfl) (fun b24 h24 => ?_)
    refine AN_nil ?_
    cases b24
    · try simp only [tdy] at h24
      refine AW_condF rfl ?_
      refine AW_skip ?_
      refine AW_seq ?_
      refine AW_seq ?_
      refine AW_regionN ?_
      refine AN_p (x_field (off := 0) (o' := 0) rfl rfl rfl (by kernel_rfl) rfl) ?_
      refine AN_p (x_load1 rfl rfl rfl (by kernel_rfl) rfl) ?_
      refine AN_b (x_eql rfl rfl rfl) (fun b41 h41 => ?_)
      refine AN_nil ?_
      cases b41
      · try simp only [tdy] at h41
        refine AW_condF rfl ?_
        refine AW_skip ?_
        refine AW_seq ?_
        refine AW_seq ?_
        refine AW_regionN ?_
        refine AN_p (x_field (off := 0) (o' := 0) rfl rfl rfl (by kernel_rfl) rfl) ?_
        refine AN_p (x_load1 rfl rfl rfl (by kernel_rfl) rfl) ?_
        refine AN_b (x_eql rfl rfl rfl) (fun b47 h47 => ?_)
        refine AN_nil ?_
        cases b47
        · try simp only [tdy] at h47
          refine AW_condF rfl ?_
          refine AW_skip ?_
          refine AW_seq ?_
          refine AW_regionN ?_
          refine AN_p (x_loadN (n := 10) rfl rfl rfl (by kernel_rfl) rfl rfl) ?_
          refine AN_p (x_store (n := 10) rfl rfl rfl rfl (by kernel_rfl) rfl rfl rfl) ?_
          refine AN_nil ?_
          refine AW_ret ?_
          refine ⟨⟨⟨_, _, _, _, _, ⟨_, _⟩, _, _, ⟨_⟩⟩, _⟩, ?_, rn [(9, 100)], by exact ⟨⟨⟨_, rfl, VLe.rf⟩, trivial⟩, ⟨⟨_, rfl, by first | exact BLe.rf | exact BLe.box (by repeat (first | exact trivial | refine ⟨by first | exact CLe.rf | exact CLe.nil, ?_⟩))⟩, ⟨_, rfl, BLe.rf⟩, trivial⟩, by repeat (first | exact trivial | refine ⟨⟨rfl, by first | (left; intro h; cases h) | (right; rfl), by first | exact (fun _ h => ⟨_, h⟩) | exact (fun _ _ => ⟨_, rfl⟩)⟩, ?_⟩), rfl⟩⟩
          refine ⟨⟨?_, ?_⟩, ⟨?_, fun _ _ => trivial⟩, ?_⟩
          all_goals (try unfold smallHead)
          all_goals (try dsimp only)
          all_goals first | omega | exact Nat.zero_le _ | (simp only [List.length_nil]; omega)
        try simp only [tdy] at h47
        refine AW_condT rfl ?_
        refine AW_seq ?_
        refine AW_regionN ?_
        refine AN_p (x_move rfl rfl) ?_
        have d49 := dBelow_lt b (dBelow b (dBelow b (dBelow b (dBelow b (dBelow b c 6).2 4).2 9).2 3).2 9).2 (n := 2) (by decide)
        refine AN_p (x_call (ks := []) (L := [(200, some _)]) (L' := [(200, some _)]) rfl rfl rfl (below_c b (dBelow b (dBelow b (dBelow b (dBelow b (dBelow b c 6).2 4).2 9).2 3).2 9).2 hb 2) rfl AllV.rf (caught_of rfl) rfl rfl rfl ⟨rfl, trivial⟩ rfl) ?_
        refine AN_b (x_eql rfl rfl rfl) (fun b50 h50 => ?_)
        refine AN_p (x_field (off := 8) (o' := 8) rfl rfl rfl (by kernel_rfl) rfl) ?_
        refine AN_p (x_store (n := 1) rfl rfl rfl rfl (by kernel_rfl) rfl rfl rfl) ?_
        refine AN_nil ?_
        refine AW_regionN ?_
        refine AN_p (x_move rfl rfl) ?_
        refine AN_x (L := [(200, some (curB b (dBelow b (dBelow b (dBelow b (dBelow b (dBelow b (dBelow b c 6).2 4).2 9).2 3).2 9).2 2).2))]) rfl rfl rfl (head_x b (dBelow b (dBelow b (dBelow b (dBelow b (dBelow b (dBelow b c 6).2 4).2 9).2 3).2 9).2 2).2 hb) rfl rfl (fun _ => rfl) (fun _ => rfl) ⟨rfl, trivial⟩ (fun _ => rfl) ?_
        rintro ⟨y53, c53⟩ g53
        dsimp only at g53 ⊢
        refine AN_p (x_field (off := 9) (o' := 9) rfl rfl rfl (by kernel_rfl) rfl) ?_
        refine AN_p (x_store (n := 1) rfl rfl rfl rfl (by kernel_rfl) rfl rfl rfl) ?_
        refine AN_nil ?_
        refine AW_seq ?_
        refine AW_regionN ?_
        refine AN_p (x_loadN (n := 10) rfl rfl rfl (by kernel_rfl) rfl rfl) ?_
        refine AN_p (x_store (n := 10) rfl rfl rfl rfl (by kernel_rfl) rfl rfl rfl) ?_
        refine AN_nil ?_
        refine AW_shutB 300 100 9 rfl rfl rfl rfl ?_
        refine AW_ret ?_
        refine ⟨⟨⟨_, _, _, _, _, ⟨_, _⟩, _, _, ⟨_⟩⟩, _⟩, ?_, rn [(9, 100)], by exact ⟨⟨⟨_, rfl, VLe.rf⟩, trivial⟩, ⟨⟨_, rfl, by first | exact BLe.rf | exact BLe.box (by repeat (first | exact trivial | refine ⟨by first | exact CLe.rf | exact CLe.nil, ?_⟩))⟩, ⟨_, rfl, BLe.rf⟩, trivial⟩, by repeat (first | exact trivial | refine ⟨⟨rfl, by first | (left; intro h; cases h) | (right; rfl), by first | exact (fun _ h => ⟨_, h⟩) | exact (fun _ _ => ⟨_, rfl⟩)⟩, ?_⟩), rfl⟩⟩
        refine ⟨⟨?_, ?_⟩, ⟨?_, fun _ _ => trivial⟩, ?_⟩
        all_goals (try unfold smallHead)
        all_goals (try dsimp only)
        all_goals first | omega | exact Nat.zero_le _ | (simp only [List.length_nil]; omega)
      try simp only [tdy] at h41
      refine AW_condT rfl ?_
      refine AW_regionN ?_
      refine AN_p (x_move rfl rfl) ?_
      have d43 := dBelow_lt b (dBelow b (dBelow b (dBelow b (dBelow b (dBelow b c 6).2 4).2 9).2 3).2 9).2 (n := 5) (by decide)
      refine AN_p (x_call (ks := []) (L := [(200, some _)]) (L' := [(200, some _)]) rfl rfl rfl (below_c b (dBelow b (dBelow b (dBelow b (dBelow b (dBelow b c 6).2 4).2 9).2 3).2 9).2 hb 5) rfl AllV.rf (caught_of rfl) rfl rfl rfl ⟨rfl, trivial⟩ rfl) ?_
      refine AN_p (x_field (off := 3) (o' := 3) rfl rfl rfl (by kernel_rfl) rfl) ?_
      refine AN_p (x_store (n := 1) rfl rfl rfl rfl (by kernel_rfl) rfl rfl rfl) ?_
      refine AN_nil ?_
      refine AW_seq ?_
      refine AW_seq ?_
      refine AW_regionN ?_
      refine AN_p (x_field (off := 0) (o' := 0) rfl rfl rfl (by kernel_rfl) rfl) ?_
      refine AN_p (x_load1 rfl rfl rfl (by kernel_rfl) rfl) ?_
      refine AN_b (x_eql rfl rfl rfl) (fun b47 h47 => ?_)
      refine AN_nil ?_
      cases b47
      · try simp only [tdy] at h47
        refine AW_condF rfl ?_
        refine AW_skip ?_
        refine AW_seq ?_
        refine AW_regionN ?_
        refine AN_p (x_loadN (n := 10) rfl rfl rfl (by kernel_rfl) rfl rfl) ?_
        refine AN_p (x_store (n := 10) rfl rfl rfl rfl (by kernel_rfl) rfl rfl rfl) ?_
        refine AN_nil ?_
        refine AW_ret ?_
        refine ⟨⟨⟨_, _, _, _, _, ⟨_, _⟩, _, _, ⟨_⟩⟩, _⟩, ?_, rn [(9, 100)], by exact ⟨⟨⟨_, rfl, VLe.rf⟩, trivial⟩, ⟨⟨_, rfl, by first | exact BLe.rf | exact BLe.box (by repeat (first | exact trivial | refine ⟨by first | exact CLe.rf | exact CLe.nil, ?_⟩))⟩, ⟨_, rfl, BLe.rf⟩, trivial⟩, by repeat (first | exact trivial | refine ⟨⟨rfl, by first | (left; intro h; cases h) | (right; rfl), by first | exact (fun _ h => ⟨_, h⟩) | exact (fun _ _ => ⟨_, rfl⟩)⟩, ?_⟩), rfl⟩⟩
        refine ⟨⟨?_, ?_⟩, ⟨?_, fun _ _ => trivial⟩, ?_⟩
        all_goals (try unfold smallHead)
        all_goals (try dsimp only)
        all_goals first | omega | exact Nat.zero_le _ | (simp only [List.length_nil]; omega)
      try simp only [tdy] at h47
      refine AW_condT rfl ?_
      refine AW_seq ?_
      refine AW_regionN ?_
      refine AN_p (x_move rfl rfl) ?_
      have d49 := dBelow_lt b (dBelow b (dBelow b (dBelow b (dBelow b (dBelow b (dBelow b c 6).2 4).2 9).2 3).2 9).2 5).2 (n := 2) (by decide)
      refine AN_p (x_call (ks := []) (L := [(200, some _)]) (L' := [(200, some _)]) rfl rfl rfl (below_c b (dBelow b (dBelow b (dBelow b (dBelow b (dBelow b (dBelow b c 6).2 4).2 9).2 3).2 9).2 5).2 hb 2) rfl AllV.rf (caught_of rfl) rfl rfl rfl ⟨rfl, trivial⟩ rfl) ?_
      refine AN_b (x_eql rfl rfl rfl) (fun b50 h50 => ?_)
      refine AN_p (x_field (off := 8) (o' := 8) rfl rfl rfl (by kernel_rfl) rfl) ?_
      refine AN_p (x_store (n := 1) rfl rfl rfl rfl (by kernel_rfl) rfl rfl rfl) ?_
      refine AN_nil ?_
      refine AW_regionN ?_
      refine AN_p (x_move rfl rfl) ?_
      refine AN_x (L := [(200, some (curB b (dBelow b (dBelow b (dBelow b (dBelow b (dBelow b (dBelow b (dBelow b c 6).2 4).2 9).2 3).2 9).2 5).2 2).2))]) rfl rfl rfl (head_x b (dBelow b (dBelow b (dBelow b (dBelow b (dBelow b (dBelow b (dBelow b c 6).2 4).2 9).2 3).2 9).2 5).2 2).2 hb) rfl rfl (fun _ => rfl) (fun _ => rfl) ⟨rfl, trivial⟩ (fun _ => rfl) ?_
      rintro ⟨y53, c53⟩ g53
      dsimp only at g53 ⊢
      refine AN_p (x_field (off := 9) (o' := 9) rfl rfl rfl (by kernel_rfl) rfl) ?_
      refine AN_p (x_store (n := 1) rfl rfl rfl rfl (by kernel_rfl) rfl rfl rfl) ?_
      refine AN_nil ?_
      refine AW_seq ?_
      refine AW_regionN ?_
      refine AN_p (x_loadN (n := 10) rfl rfl rfl (by kernel_rfl) rfl rfl) ?_
      refine AN_p (x_store (n := 10) rfl rfl rfl rfl (by kernel_rfl) rfl rfl rfl) ?_
      refine AN_nil ?_
      refine AW_shutB 300 100 9 rfl rfl rfl rfl ?_
      refine AW_ret ?_
      refine ⟨⟨⟨_, _, _, _, _, ⟨_, _⟩, _, _, ⟨_⟩⟩, _⟩, ?_, rn [(9, 100)], by exact ⟨⟨⟨_, rfl, VLe.rf⟩, trivial⟩, ⟨⟨_, rfl, by first | exact BLe.rf | exact BLe.box (by repeat (first | exact trivial | refine ⟨by first | exact CLe.rf | exact CLe.nil, ?_⟩))⟩, ⟨_, rfl, BLe.rf⟩, trivial⟩, by repeat (first | exact trivial | refine ⟨⟨rfl, by first | (left; intro h; cases h) | (right; rfl), by first | exact (fun _ h => ⟨_, h⟩) | exact (fun _ _ => ⟨_, rfl⟩)⟩, ?_⟩), rfl⟩⟩
      refine ⟨⟨?_, ?_⟩, ⟨?_, fun _ _ => trivial⟩, ?_⟩
      all_goals (try unfold smallHead)
      all_goals (try dsimp only)
      all_goals first | omega | exact Nat.zero_le _ | (simp only [List.length_nil]; omega)
    try simp only [tdy] at h24
    refine AW_condT rfl ?_
    refine AW_seq ?_
    refine AW_regionN ?_
    refine AN_p (x_move rfl rfl) ?_
    refine AN_x (L := [(200, some (curB b (dBelow b (dBelow b (dBelow b (dBelow b (dBelow b c 6).2 4).2 9).2 3).2 9).2))]) rfl rfl rfl (entry_x b (dBelow b (dBelow b (dBelow b (dBelow b (dBelow b c 6).2 4).2 9).2 3).2 9).2 hb) rfl rfl (fun _ => rfl) (fun _ => rfl) ⟨rfl, trivial⟩ (fun _ => rfl) ?_
    rintro ⟨x26, c26⟩ g26
    dsimp only at g26 ⊢
    obtain ⟨ga, gb, gc⟩ := g26
    obtain ⟨e1, e2, ⟨mv, mm⟩, ac, e3⟩ := x26
    dsimp only at ga gb gc ⊢
    refine AN_p (x_alloc (z := .agg #[.int .i64 0, .int .i64 0, .slice none 0 0, .slice none 0 0, .slice none 0 0, .int .i64 0]) 102 rfl (by kernel_rfl) rfl rfl rfl rfl) ?_
    refine AN_p (x_store (n := 6) rfl rfl rfl rfl (by kernel_rfl) rfl rfl rfl) ?_
    refine AN_nil ?_
    refine AW_seq ?_
    refine AW_regionN ?_
    refine AN_p (x_field (off := 0) (o' := 0) rfl rfl rfl (by kernel_rfl) rfl) ?_
    refine AN_p (x_load1 rfl rfl rfl (by kernel_rfl) rfl) ?_
    refine AN_p (x_field (off := 3) (o' := 3) rfl rfl rfl (by kernel_rfl) rfl) ?_
    refine AN_p (x_store (n := 1) rfl rfl rfl rfl (by kernel_rfl) rfl rfl rfl) ?_
    refine AN_nil ?_
    refine AW_seq ?_
    refine AW_regionN ?_
    refine AN_p (x_field (off := 1) (o' := 1) rfl rfl rfl (by kernel_rfl) rfl) ?_
    refine AN_p (x_load1 rfl rfl rfl (by kernel_rfl) rfl) ?_
    refine AN_p (x_field (off := 4) (o' := 4) rfl rfl rfl (by kernel_rfl) rfl) ?_
    refine AN_p (x_store (n := 1) rfl rfl rfl rfl (by kernel_rfl) rfl rfl rfl) ?_
    refine AN_nil ?_
    refine AW_seq ?_
    refine AW_regionN ?_
    refine AN_p (x_field (off := 2) (o' := 2) rfl rfl rfl (by kernel_rfl) rfl) ?_
    refine AN_p (x_loadN (n := 2) rfl rfl rfl (by kernel_rfl) rfl rfl) ?_
    refine AN_p (x_field (off := 5) (o' := 5) rfl rfl rfl (by kernel_rfl) rfl) ?_
    refine AN_p (x_store (n := 2) rfl rfl rfl rfl (by kernel_rfl) rfl rfl rfl) ?_
    refine AN_nil ?_
    refine AW_regionN ?_
    refine AN_p (x_field (off := 4) (o' := 4) rfl rfl rfl (by kernel_rfl) rfl) ?_
    refine AN_p (x_load1 rfl rfl rfl (by kernel_rfl) rfl) ?_
    refine AN_p (x_field (off := 7) (o' := 7) rfl rfl rfl (by kernel_rfl) rfl) ?_
    refine AN_p (x_store (n := 1) rfl rfl rfl rfl (by kernel_rfl) rfl rfl rfl) ?_
    refine AN_nil ?_
    refine AW_seq ?_
    refine AW_seq ?_
    refine AW_regionN ?_
    refine AN_p (x_field (off := 0) (o' := 0) rfl rfl rfl (by kernel_rfl) rfl) ?_
    refine AN_p (x_load1 rfl rfl rfl (by kernel_rfl) rfl) ?_
    refine AN_b (x_eql rfl rfl rfl) (fun b41 h41 => ?_)
    refine AN_nil ?_
    cases b41
    · try simp only [tdy] at h41
      refine AW_condF rfl ?_
      refine AW_skip ?_
      refine AW_seq ?_
      refine AW_seq ?_
      refine AW_regionN ?_
      refine AN_p (x_field (off := 0) (o' := 0) rfl rfl rfl (by kernel_rfl) rfl) ?_
      refine AN_p (x_load1 rfl rfl rfl (by kernel_rfl) rfl) ?_
      refine AN_b (x_eql rfl rfl rfl) (fun b47 h47 => ?_)
      refine AN_nil ?_
      cases b47
      · try simp only [tdy] at h47
        refine AW_condF rfl ?_
        refine AW_skip ?_
        refine AW_seq ?_
        refine AW_regionN ?_
        refine AN_p (x_loadN (n := 10) rfl rfl rfl (by kernel_rfl) rfl rfl) ?_
        refine AN_p (x_store (n := 10) rfl rfl rfl rfl (by kernel_rfl) rfl rfl rfl) ?_
        refine AN_nil ?_
        refine AW_ret ?_
        refine ⟨⟨⟨_, _, _, _, _, ⟨_, _⟩, _, _, ⟨_⟩⟩, _⟩, ?_, rn [(9, 100)], by exact ⟨⟨⟨_, rfl, VLe.rf⟩, trivial⟩, ⟨⟨_, rfl, by first | exact BLe.rf | exact BLe.box (by repeat (first | exact trivial | refine ⟨by first | exact CLe.rf | exact CLe.nil, ?_⟩))⟩, ⟨_, rfl, BLe.rf⟩, trivial⟩, by repeat (first | exact trivial | refine ⟨⟨rfl, by first | (left; intro h; cases h) | (right; rfl), by first | exact (fun _ h => ⟨_, h⟩) | exact (fun _ _ => ⟨_, rfl⟩)⟩, ?_⟩), rfl⟩⟩
        refine ⟨⟨?_, ?_⟩, ⟨?_, fun _ _ => trivial⟩, ?_⟩
        all_goals (try unfold smallHead)
        all_goals (try dsimp only)
        all_goals first | omega | exact Nat.zero_le _ | (simp only [List.length_nil]; omega)
      try simp only [tdy] at h47
      refine AW_condT rfl ?_
      refine AW_seq ?_
      refine AW_regionN ?_
      refine AN_p (x_move rfl rfl) ?_
      have d49 := dBelow_lt b c26 (n := 2) (by decide)
      refine AN_p (x_call (ks := []) (L := [(200, some _)]) (L' := [(200, some _)]) rfl rfl rfl (below_c b c26 hb 2) rfl AllV.rf (caught_of rfl) rfl rfl rfl ⟨rfl, trivial⟩ rfl) ?_
      refine AN_b (x_eql rfl rfl rfl) (fun b50 h50 => ?_)
      refine AN_p (x_field (off := 8) (o' := 8) rfl rfl rfl (by kernel_rfl) rfl) ?_
      refine AN_p (x_store (n := 1) rfl rfl rfl rfl (by kernel_rfl) rfl rfl rfl) ?_
      refine AN_nil ?_
      refine AW_regionN ?_
      refine AN_p (x_move rfl rfl) ?_
      refine AN_x (L := [(200, some (curB b (dBelow b c26 2).2))]) rfl rfl rfl (head_x b (dBelow b c26 2).2 hb) rfl rfl (fun _ => rfl) (fun _ => rfl) ⟨rfl, trivial⟩ (fun _ => rfl) ?_
      rintro ⟨y53, c53⟩ g53
      dsimp only at g53 ⊢
      refine AN_p (x_field (off := 9) (o' := 9) rfl rfl rfl (by kernel_rfl) rfl) ?_
      refine AN_p (x_store (n := 1) rfl rfl rfl rfl (by kernel_rfl) rfl rfl rfl) ?_
      refine AN_nil ?_
      refine AW_seq ?_
      refine AW_regionN ?_
      refine AN_p (x_loadN (n := 10) rfl rfl rfl (by kernel_rfl) rfl rfl) ?_
      refine AN_p (x_store (n := 10) rfl rfl rfl rfl (by kernel_rfl) rfl rfl rfl) ?_
      refine AN_nil ?_
      refine AW_shutB 300 100 9 rfl rfl rfl rfl ?_
      refine AW_ret ?_
      refine ⟨⟨⟨_, _, _, _, _, ⟨_, _⟩, _, _, ⟨_⟩⟩, _⟩, ?_, rn [(9, 100)], by exact ⟨⟨⟨_, rfl, VLe.rf⟩, trivial⟩, ⟨⟨_, rfl, by first | exact BLe.rf | exact BLe.box (by repeat (first | exact trivial | refine ⟨by first | exact CLe.rf | exact CLe.nil, ?_⟩))⟩, ⟨_, rfl, BLe.rf⟩, trivial⟩, by repeat (first | exact trivial | refine ⟨⟨rfl, by first | (left; intro h; cases h) | (right; rfl), by first | exact (fun _ h => ⟨_, h⟩) | exact (fun _ _ => ⟨_, rfl⟩)⟩, ?_⟩), rfl⟩⟩
      refine ⟨⟨?_, ?_⟩, ⟨?_, fun _ _ => trivial⟩, ?_⟩
      all_goals (try unfold smallHead)
      all_goals (try dsimp only)
      all_goals first | omega | exact Nat.zero_le _ | (simp only [List.length_nil]; omega)
    try simp only [tdy] at h41
    refine AW_condT rfl ?_
    refine AW_regionN ?_
    refine AN_p (x_move rfl rfl) ?_
    have d43 := dBelow_lt b c26 (n := 5) (by decide)
    refine AN_p (x_call (ks := []) (L := [(200, some _)]) (L' := [(200, some _)]) rfl rfl rfl (below_c b c26 hb 5) rfl AllV.rf (caught_of rfl) rfl rfl rfl ⟨rfl, trivial⟩ rfl) ?_
    refine AN_p (x_field (off := 3) (o' := 3) rfl rfl rfl (by kernel_rfl) rfl) ?_
    refine AN_p (x_store (n := 1) rfl rfl rfl rfl (by kernel_rfl) rfl rfl rfl) ?_
    refine AN_nil ?_
    refine AW_seq ?_
    refine AW_seq ?_
    refine AW_regionN ?_
    refine AN_p (x_field (off := 0) (o' := 0) rfl rfl rfl (by kernel_rfl) rfl) ?_
    refine AN_p (x_load1 rfl rfl rfl (by kernel_rfl) rfl) ?_
    refine AN_b (x_eql rfl rfl rfl) (fun b47 h47 => ?_)
    refine AN_nil ?_
    cases b47
    · try simp only [tdy] at h47
      refine AW_condF rfl ?_
      refine AW_skip ?_
      refine AW_seq ?_
      refine AW_regionN ?_
      refine AN_p (x_loadN (n := 10) rfl rfl rfl (by kernel_rfl) rfl rfl) ?_
      refine AN_p (x_store (n := 10) rfl rfl rfl rfl (by kernel_rfl) rfl rfl rfl) ?_
      refine AN_nil ?_
      refine AW_ret ?_
      refine ⟨⟨⟨_, _, _, _, _, ⟨_, _⟩, _, _, ⟨_⟩⟩, _⟩, ?_, rn [(9, 100)], by exact ⟨⟨⟨_, rfl, VLe.rf⟩, trivial⟩, ⟨⟨_, rfl, by first | exact BLe.rf | exact BLe.box (by repeat (first | exact trivial | refine ⟨by first | exact CLe.rf | exact CLe.nil, ?_⟩))⟩, ⟨_, rfl, BLe.rf⟩, trivial⟩, by repeat (first | exact trivial | refine ⟨⟨rfl, by first | (left; intro h; cases h) | (right; rfl), by first | exact (fun _ h => ⟨_, h⟩) | exact (fun _ _ => ⟨_, rfl⟩)⟩, ?_⟩), rfl⟩⟩
      refine ⟨⟨?_, ?_⟩, ⟨?_, fun _ _ => trivial⟩, ?_⟩
      all_goals (try unfold smallHead)
      all_goals (try dsimp only)
      all_goals first | omega | exact Nat.zero_le _ | (simp only [List.length_nil]; omega)
    try simp only [tdy] at h47
    refine AW_condT rfl ?_
    refine AW_seq ?_
    refine AW_regionN ?_
    refine AN_p (x_move rfl rfl) ?_
    have d49 := dBelow_lt b (dBelow b c26 5).2 (n := 2) (by decide)
    refine AN_p (x_call (ks := []) (L := [(200, some _)]) (L' := [(200, some _)]) rfl rfl rfl (below_c b (dBelow b c26 5).2 hb 2) rfl AllV.rf (caught_of rfl) rfl rfl rfl ⟨rfl, trivial⟩ rfl) ?_
    refine AN_b (x_eql rfl rfl rfl) (fun b50 h50 => ?_)
    refine AN_p (x_field (off := 8) (o' := 8) rfl rfl rfl (by kernel_rfl) rfl) ?_
    refine AN_p (x_store (n := 1) rfl rfl rfl rfl (by kernel_rfl) rfl rfl rfl) ?_
    refine AN_nil ?_
    refine AW_regionN ?_
    refine AN_p (x_move rfl rfl) ?_
    refine AN_x (L := [(200, some (curB b (dBelow b (dBelow b c26 5).2 2).2))]) rfl rfl rfl (head_x b (dBelow b (dBelow b c26 5).2 2).2 hb) rfl rfl (fun _ => rfl) (fun _ => rfl) ⟨rfl, trivial⟩ (fun _ => rfl) ?_
    rintro ⟨y53, c53⟩ g53
    dsimp only at g53 ⊢
    refine AN_p (x_field (off := 9) (o' := 9) rfl rfl rfl (by kernel_rfl) rfl) ?_
    refine AN_p (x_store (n := 1) rfl rfl rfl rfl (by kernel_rfl) rfl rfl rfl) ?_
    refine AN_nil ?_
    refine AW_seq ?_
    refine AW_regionN ?_
    refine AN_p (x_loadN (n := 10) rfl rfl rfl (by kernel_rfl) rfl rfl) ?_
    refine AN_p (x_store (n := 10) rfl rfl rfl rfl (by kernel_rfl) rfl rfl rfl) ?_
    refine AN_nil ?_
    refine AW_shutB 300 100 9 rfl rfl rfl rfl ?_
    refine AW_ret ?_
    refine ⟨⟨⟨_, _, _, _, _, ⟨_, _⟩, _, _, ⟨_⟩⟩, _⟩, ?_, rn [(9, 100)], by exact ⟨⟨⟨_, rfl, VLe.rf⟩, trivial⟩, ⟨⟨_, rfl, by first | exact BLe.rf | exact BLe.box (by repeat (first | exact trivial | refine ⟨by first | exact CLe.rf | exact CLe.nil, ?_⟩))⟩, ⟨_, rfl, BLe.rf⟩, trivial⟩, by repeat (first | exact trivial | refine ⟨⟨rfl, by first | (left; intro h; cases h) | (right; rfl), by first | exact (fun _ h => ⟨_, h⟩) | exact (fun _ _ => ⟨_, rfl⟩)⟩, ?_⟩), rfl⟩⟩
    refine ⟨⟨?_, ?_⟩, ⟨?_, fun _ _ => trivial⟩, ?_⟩
    all_goals (try unfold smallHead)
    all_goals (try dsimp only)
    all_goals first | omega | exact Nat.zero_le _ | (simp only [List.length_nil]; omega)
  try simp only [tdy] at h19
  refine AW_condT rfl ?_
  refine AW_seq ?_
  refine AW_regionN ?_
  refine AN_p (x_field (off := 1) (o' := 1) rfl rfl rfl (by kernel_rfl) rfl) ?_
  refine AN_p (x_store (n := 1) rfl rfl rfl rfl (by kernel_rfl) rfl rfl rfl) ?_
  refine AN_nil ?_
  refine AW_regionN ?_
  refine AN_p (x_field (off := 2) (o' := 2) rfl rfl rfl (by kernel_rfl) rfl) ?_
  refine AN_p (x_store (n := 1) rfl rfl rfl rfl (by kernel_rfl) rfl rfl rfl) ?_
  refine AN_nil ?_
  refine AW_seq ?_
  refine AW_seq ?_
  refine AW_regionN ?_
  refine AN_p (x_field (off := 0) (o' := 0) rfl rfl rfl (by kernel_rfl) rfl) ?_
  refine AN_p (x_load1 rfl rfl rfl (by kernel_rfl) rfl) ?_
  refine AN_b (x_eql rfl rfl rfl) (fun b24 h24 => ?_)
  refine AN_nil ?_
  cases b24
  · try simp only [tdy] at h24
    refine AW_condF rfl ?_
    refine AW_skip ?_
    refine AW_seq ?_
    refine AW_seq ?_
    refine AW_regionN ?_
    refine AN_p (x_field (off := 0) (o' := 0) rfl rfl rfl (by kernel_rfl) rfl) ?_
    refine AN_p (x_load1 rfl rfl rfl (by kernel_rfl) rfl) ?_
    refine AN_b (x_eql rfl rfl rfl) (fun b41 h41 => ?_)
    refine AN_nil ?_
    cases b41
    · try simp only [tdy] at h41
      refine AW_condF rfl ?_
      refine AW_skip ?_
      refine AW_seq ?_
      refine AW_seq ?_
      refine AW_regionN ?_
      refine AN_p (x_field (off := 0) (o' := 0) rfl rfl rfl (by kernel_rfl) rfl) ?_
      refine AN_p (x_load1 rfl rfl rfl (by kernel_rfl) rfl) ?_
      refine AN_b (x_eql rfl rfl rfl) (fun b47 h47 => ?_)
      refine AN_nil ?_
      cases b47
      · try simp only [tdy] at h47
        refine AW_condF rfl ?_
        refine AW_skip ?_
        refine AW_seq ?_
        refine AW_regionN ?_
        refine AN_p (x_loadN (n := 10) rfl rfl rfl (by kernel_rfl) rfl rfl) ?_
        refine AN_p (x_store (n := 10) rfl rfl rfl rfl (by kernel_rfl) rfl rfl rfl) ?_
        refine AN_nil ?_
        refine AW_ret ?_
        refine ⟨⟨⟨_, _, _, _, _, ⟨_, _⟩, _, _, ⟨_⟩⟩, _⟩, ?_, rn [(9, 100)], by exact ⟨⟨⟨_, rfl, VLe.rf⟩, trivial⟩, ⟨⟨_, rfl, by first | exact BLe.rf | exact BLe.box (by repeat (first | exact trivial | refine ⟨by first | exact CLe.rf | exact CLe.nil, ?_⟩))⟩, ⟨_, rfl, BLe.rf⟩, trivial⟩, by repeat (first | exact trivial | refine ⟨⟨rfl, by first | (left; intro h; cases h) | (right; rfl), by first | exact (fun _ h => ⟨_, h⟩) | exact (fun _ _ => ⟨_, rfl⟩)⟩, ?_⟩), rfl⟩⟩
        refine ⟨⟨?_, ?_⟩, ⟨?_, fun _ _ => trivial⟩, ?_⟩
        all_goals (try unfold smallHead)
        all_goals (try dsimp only)
        all_goals first | omega | exact Nat.zero_le _ | (simp only [List.length_nil]; omega)
      try simp only [tdy] at h47
      refine AW_condT rfl ?_
      refine AW_seq ?_
      refine AW_regionN ?_
      refine AN_p (x_move rfl rfl) ?_
      have d49 := dBelow_lt b (dBelow b (dBelow b (dBelow b (dBelow b (dBelow b c 6).2 4).2 9).2 3).2 9).2 (n := 2) (by decide)
      refine AN_p (x_call (ks := []) (L := [(200, some _)]) (L' := [(200, some _)]) rfl rfl rfl (below_c b (dBelow b (dBelow b (dBelow b (dBelow b (dBelow b c 6).2 4).2 9).2 3).2 9).2 hb 2) rfl AllV.rf (caught_of rfl) rfl rfl rfl ⟨rfl, trivial⟩ rfl) ?_
      refine AN_b (x_eql rfl rfl rfl) (fun b50 h50 => ?_)
      refine AN_p (x_field (off := 8) (o' := 8) rfl rfl rfl (by kernel_rfl) rfl) ?_
      refine AN_p (x_store (n := 1) rfl rfl rfl rfl (by kernel_rfl) rfl rfl rfl) ?_
      refine AN_nil ?_
      refine AW_regionN ?_
      refine AN_p (x_move rfl rfl) ?_
      refine AN_x (L := [(200, some (curB b (dBelow b (dBelow b (dBelow b (dBelow b (dBelow b (dBelow b c 6).2 4).2 9).2 3).2 9).2 2).2))]) rfl rfl rfl (head_x b (dBelow b (dBelow b (dBelow b (dBelow b (dBelow b (dBelow b c 6).2 4).2 9).2 3).2 9).2 2).2 hb) rfl rfl (fun _ => rfl) (fun _ => rfl) ⟨rfl, trivial⟩ (fun _ => rfl) ?_
      rintro ⟨y53, c53⟩ g53
      dsimp only at g53 ⊢
      refine AN_p (x_field (off := 9) (o' := 9) rfl rfl rfl (by kernel_rfl) rfl) ?_
      refine AN_p (x_store (n := 1) rfl rfl rfl rfl (by kernel_rfl) rfl rfl rfl) ?_
      refine AN_nil ?_
      refine AW_seq ?_
      refine AW_regionN ?_
      refine AN_p (x_loadN (n := 10) rfl rfl rfl (by kernel_rfl) rfl rfl) ?_
      refine AN_p (x_store (n := 10) rfl rfl rfl rfl (by kernel_rfl) rfl rfl rfl) ?_
      refine AN_nil ?_
      refine AW_shutB 300 100 9 rfl rfl rfl rfl ?_
      refine AW_ret ?_
      refine ⟨⟨⟨_, _, _, _, _, ⟨_, _⟩, _, _, ⟨_⟩⟩, _⟩, ?_, rn [(9, 100)], by exact ⟨⟨⟨_, rfl, VLe.rf⟩, trivial⟩, ⟨⟨_, rfl, by first | exact BLe.rf | exact BLe.box (by repeat (first | exact trivial | refine ⟨by first | exact CLe.rf | exact CLe.nil, ?_⟩))⟩, ⟨_, rfl, BLe.rf⟩, trivial⟩, by repeat (first | exact trivial | refine ⟨⟨rfl, by first | (left; intro h; cases h) | (right; rfl), by first | exact (fun _ h => ⟨_, h⟩) | exact (fun _ _ => ⟨_, rfl⟩)⟩, ?_⟩), rfl⟩⟩
      refine ⟨⟨?_, ?_⟩, ⟨?_, fun _ _ => trivial⟩, ?_⟩
      all_goals (try unfold smallHead)
      all_goals (try dsimp only)
      all_goals first | omega | exact Nat.zero_le _ | (simp only [List.length_nil]; omega)
    try simp only [tdy] at h41
    refine AW_condT rfl ?_
    refine AW_regionN ?_
    refine AN_p (x_move rfl rfl) ?_
    have d43 := dBelow_lt b (dBelow b (dBelow b (dBelow b (dBelow b (dBelow b c 6).2 4).2 9).2 3).2 9).2 (n := 5) (by decide)
    refine AN_p (x_call (ks := []) (L := [(200, some _)]) (L' := [(200, some _)]) rfl rfl rfl (below_c b (dBelow b (dBelow b (dBelow b (dBelow b (dBelow b c 6).2 4).2 9).2 3).2 9).2 hb 5) rfl AllV.rf (caught_of rfl) rfl rfl rfl ⟨rfl, trivial⟩ rfl) ?_
    refine AN_p (x_field (off := 3) (o' := 3) rfl rfl rfl (by kernel_rfl) rfl) ?_
    refine AN_p (x_store (n := 1) rfl rfl rfl rfl (by kernel_rfl) rfl rfl rfl) ?_
    refine AN_nil ?_
    refine AW_seq ?_
    refine AW_seq ?_
    refine AW_regionN ?_
    refine AN_p (x_field (off := 0) (o' := 0) rfl rfl rfl (by kernel_rfl) rfl) ?_
    refine AN_p (x_load1 rfl rfl rfl (by kernel_rfl) rfl) ?_
    refine AN_b (x_eql rfl rfl rfl) (fun b47 h47 => ?_)
    refine AN_nil ?_
    cases b47
    · try simp only [tdy] at h47
      refine AW_condF rfl ?_
      refine AW_skip ?_
      refine AW_seq ?_
      refine AW_regionN ?_
      refine AN_p (x_loadN (n := 10) rfl rfl rfl (by kernel_rfl) rfl rfl) ?_
      refine AN_p (x_store (n := 10) rfl rfl rfl rfl (by kernel_rfl) rfl rfl rfl) ?_
      refine AN_nil ?_
      refine AW_ret ?_
      refine ⟨⟨⟨_, _, _, _, _, ⟨_, _⟩, _, _, ⟨_⟩⟩, _⟩, ?_, rn [(9, 100)], by exact ⟨⟨⟨_, rfl, VLe.rf⟩, trivial⟩, ⟨⟨_, rfl, by first | exact BLe.rf | exact BLe.box (by repeat (first | exact trivial | refine ⟨by first | exact CLe.rf | exact CLe.nil, ?_⟩))⟩, ⟨_, rfl, BLe.rf⟩, trivial⟩, by repeat (first | exact trivial | refine ⟨⟨rfl, by first | (left; intro h; cases h) | (right; rfl), by first | exact (fun _ h => ⟨_, h⟩) | exact (fun _ _ => ⟨_, rfl⟩)⟩, ?_⟩), rfl⟩⟩
      refine ⟨⟨?_, ?_⟩, ⟨?_, fun _ _ => trivial⟩, ?_⟩
      all_goals (try unfold smallHead)
      all_goals (try dsimp only)
      all_goals first | omega | exact Nat.zero_le _ | (simp only [List.length_nil]; omega)
    try simp only [tdy] at h47
    refine AW_condT rfl ?_
    refine AW_seq ?_
    refine AW_regionN ?_
    refine AN_p (x_move rfl rfl) ?_
    have d49 := dBelow_lt b (dBelow b (dBelow b (dBelow b (dBelow b (dBelow b (dBelow b c 6).2 4).2 9).2 3).2 9).2 5).2 (n := 2) (by decide)
    refine AN_p (x_call (ks := []) (L := [(200, some _)]) (L' := [(200, some _)]) rfl rfl rfl (below_c b (dBelow b (dBelow b (dBelow b (dBelow b (dBelow b (dBelow b c 6).2 4).2 9).2 3).2 9).2 5).2 hb 2) rfl AllV.rf (caught_of rfl) rfl rfl rfl ⟨rfl, trivial⟩ rfl) ?_
    refine AN_b (x_eql rfl rfl rfl) (fun b50 h50 => ?_)
    refine AN_p (x_field (off := 8) (o' := 8) rfl rfl rfl (by kernel_rfl) rfl) ?_
    refine AN_p (x_store (n := 1) rfl rfl rfl rfl (by kernel_rfl) rfl rfl rfl) ?_
    refine AN_nil ?_
    refine AW_regionN ?_
    refine AN_p (x_move rfl rfl) ?_
    refine AN_x (L := [(200, some (curB b (dBelow b (dBelow b (dBelow b (dBelow b (dBelow b (dBelow b (dBelow b c 6).2 4).2 9).2 3).2 9).2 5).2 2).2))]) rfl rfl rfl (head_x b (dBelow b (dBelow b (dBelow b (dBelow b (dBelow b (dBelow b (dBelow b c 6).2 4).2 9).2 3).2 9).2 5).2 2).2 hb) rfl rfl (fun _ => rfl) (fun _ => rfl) ⟨rfl, trivial⟩ (fun _ => rfl) ?_
    rintro ⟨y53, c53⟩ g53
    dsimp only at g53 ⊢
    refine AN_p (x_field (off := 9) (o' := 9) rfl rfl rfl (by kernel_rfl) rfl) ?_
    refine AN_p (x_store (n := 1) rfl rfl rfl rfl (by kernel_rfl) rfl rfl rfl) ?_
    refine AN_nil ?_
    refine AW_seq ?_
    refine AW_regionN ?_
    refine AN_p (x_loadN (n := 10) rfl rfl rfl (by kernel_rfl) rfl rfl) ?_
    refine AN_p (x_store (n := 10) rfl rfl rfl rfl (by kernel_rfl) rfl rfl rfl) ?_
    refine AN_nil ?_
    refine AW_shutB 300 100 9 rfl rfl rfl rfl ?_
    refine AW_ret ?_
    refine ⟨⟨⟨_, _, _, _, _, ⟨_, _⟩, _, _, ⟨_⟩⟩, _⟩, ?_, rn [(9, 100)], by exact ⟨⟨⟨_, rfl, VLe.rf⟩, trivial⟩, ⟨⟨_, rfl, by first | exact BLe.rf | exact BLe.box (by repeat (first | exact trivial | refine ⟨by first | exact CLe.rf | exact CLe.nil, ?_⟩))⟩, ⟨_, rfl, BLe.rf⟩, trivial⟩, by repeat (first | exact trivial | refine ⟨⟨rfl, by first | (left; intro h; cases h) | (right; rfl), by first | exact (fun _ h => ⟨_, h⟩) | exact (fun _ _ => ⟨_, rfl⟩)⟩, ?_⟩), rfl⟩⟩
    refine ⟨⟨?_, ?_⟩, ⟨?_, fun _ _ => trivial⟩, ?_⟩
    all_goals (try unfold smallHead)
    all_goals (try dsimp only)
    all_goals first | omega | exact Nat.zero_le _ | (simp only [List.length_nil]; omega)
  try simp only [tdy] at h24
  refine AW_condT rfl ?_
  refine AW_seq ?_
  refine AW_regionN ?_
  refine AN_p (x_move rfl rfl) ?_
  refine AN_x (L := [(200, some (curB b (dBelow b (dBelow b (dBelow b (dBelow b (dBelow b c 6).2 4).2 9).2 3).2 9).2))]) rfl rfl rfl (entry_x b (dBelow b (dBelow b (dBelow b (dBelow b (dBelow b c 6).2 4).2 9).2 3).2 9).2 hb) rfl rfl (fun _ => rfl) (fun _ => rfl) ⟨rfl, trivial⟩ (fun _ => rfl) ?_
  rintro ⟨x26, c26⟩ g26
  dsimp only at g26 ⊢
  obtain ⟨ga, gb, gc⟩ := g26
  obtain ⟨e1, e2, ⟨mv, mm⟩, ac, e3⟩ := x26
  dsimp only at ga gb gc ⊢
  refine AN_p (x_alloc (z := .agg #[.int .i64 0, .int .i64 0, .slice none 0 0, .slice none 0 0, .slice none 0 0, .int .i64 0]) 102 rfl (by kernel_rfl) rfl rfl rfl rfl) ?_
  refine AN_p (x_store (n := 6) rfl rfl rfl rfl (by kernel_rfl) rfl rfl rfl) ?_
  refine AN_nil ?_
  refine AW_seq ?_
  refine AW_regionN ?_
  refine AN_p (x_field (off := 0) (o' := 0) rfl rfl rfl (by kernel_rfl) rfl) ?_
  refine AN_p (x_load1 rfl rfl rfl (by kernel_rfl) rfl) ?_
  refine AN_p (x_field (off := 3) (o' := 3) rfl rfl rfl (by kernel_rfl) rfl) ?_
  refine AN_p (x_store (n := 1) rfl rfl rfl rfl (by kernel_rfl) rfl rfl rfl) ?_
  refine AN_nil ?_
  refine AW_seq ?_
  refine AW_regionN ?_
  refine AN_p (x_field (off := 1) (o' := 1) rfl rfl rfl (by kernel_rfl) rfl) ?_
  refine AN_p (x_load1 rfl rfl rfl (by kernel_rfl) rfl) ?_
  refine AN_p (x_field (off := 4) (o' := 4) rfl rfl rfl (by kernel_rfl) rfl) ?_
  refine AN_p (x_store (n := 1) rfl rfl rfl rfl (by kernel_rfl) rfl rfl rfl) ?_
  refine AN_nil ?_
  refine AW_seq ?_
  refine AW_regionN ?_
  refine AN_p (x_field (off := 2) (o' := 2) rfl rfl rfl (by kernel_rfl) rfl) ?_
  refine AN_p (x_loadN (n := 2) rfl rfl rfl (by kernel_rfl) rfl rfl) ?_
  refine AN_p (x_field (off := 5) (o' := 5) rfl rfl rfl (by kernel_rfl) rfl) ?_
  refine AN_p (x_store (n := 2) rfl rfl rfl rfl (by kernel_rfl) rfl rfl rfl) ?_
  refine AN_nil ?_
  refine AW_regionN ?_
  refine AN_p (x_field (off := 4) (o' := 4) rfl rfl rfl (by kernel_rfl) rfl) ?_
  refine AN_p (x_load1 rfl rfl rfl (by kernel_rfl) rfl) ?_
  refine AN_p (x_field (off := 7) (o' := 7) rfl rfl rfl (by kernel_rfl) rfl) ?_
  refine AN_p (x_store (n := 1) rfl rfl rfl rfl (by kernel_rfl) rfl rfl rfl) ?_
  refine AN_nil ?_
  refine AW_seq ?_
  refine AW_seq ?_
  refine AW_regionN ?_
  refine AN_p (x_field (off := 0) (o' := 0) rfl rfl rfl (by kernel_rfl) rfl) ?_
  refine AN_p (x_load1 rfl rfl rfl (by kernel_rfl) rfl) ?_
  refine AN_b (x_eql rfl rfl rfl) (fun b41 h41 => ?_)
  refine AN_nil ?_
  cases b41
  · try simp only [tdy] at h41
    refine AW_condF rfl ?_
    refine AW_skip ?_
    refine AW_seq ?_
    refine AW_seq ?_
    refine AW_regionN ?_
    refine AN_p (x_field (off := 0) (o' := 0) rfl rfl rfl (by kernel_rfl) rfl) ?_
    refine AN_p (x_load1 rfl rfl rfl (by kernel_rfl) rfl) ?_
    refine AN_b (x_eql rfl rfl rfl) (fun b47 h47 => ?_)
    refine AN_nil ?_
    cases b47
    · try simp only [tdy] at h47
      refine AW_condF rfl ?_
      refine AW_skip ?_
      refine AW_seq ?_
      refine AW_regionN ?_
      refine AN_p (x_loadN (n := 10) rfl rfl rfl (by kernel_rfl) rfl rfl) ?_
      refine AN_p (x_store (n := 10) rfl rfl rfl rfl (by kernel_rfl) rfl rfl rfl) ?_
      refine AN_nil ?_
      refine AW_ret ?_
      refine ⟨⟨⟨_, _, _, _, _, ⟨_, _⟩, _, _, ⟨_⟩⟩, _⟩, ?_, rn [(9, 100)], by exact ⟨⟨⟨_, rfl, VLe.rf⟩, trivial⟩, ⟨⟨_, rfl, by first | exact BLe.rf | exact BLe.box (by repeat (first | exact trivial | refine ⟨by first | exact CLe.rf | exact CLe.nil, ?_⟩))⟩, ⟨_, rfl, BLe.rf⟩, trivial⟩, by repeat (first | exact trivial | refine ⟨⟨rfl, by first | (left; intro h; cases h) | (right; rfl), by first | exact (fun _ h => ⟨_, h⟩) | exact (fun _ _ => ⟨_, rfl⟩)⟩, ?_⟩), rfl⟩⟩
      refine ⟨⟨?_, ?_⟩, ⟨?_, fun _ _ => trivial⟩, ?_⟩
      all_goals (try unfold smallHead)
      all_goals (try dsimp only)
      all_goals first | omega | exact Nat.zero_le _ | (simp only [List.length_nil]; omega)
    try simp only [tdy] at h47
    refine AW_condT rfl ?_
    refine AW_seq ?_
    refine AW_regionN ?_
    refine AN_p (x_move rfl rfl) ?_
    have d49 := dBelow_lt b c26 (n := 2) (by decide)
    refine AN_p (x_call (ks := []) (L := [(200, some _)]) (L' := [(200, some _)]) rfl rfl rfl (below_c b c26 hb 2) rfl AllV.rf (caught_of rfl) rfl rfl rfl ⟨rfl, trivial⟩ rfl) ?_
    refine AN_b (x_eql rfl rfl rfl) (fun b50 h50 => ?_)
    refine AN_p (x_field (off := 8) (o' := 8) rfl rfl rfl (by kernel_rfl) rfl) ?_
    refine AN_p (x_store (n := 1) rfl rfl rfl rfl (by kernel_rfl) rfl rfl rfl) ?_
    refine AN_nil ?_
    refine AW_regionN ?_
    refine AN_p (x_move rfl rfl) ?_
    refine AN_x (L := [(200, some (curB b (dBelow b c26 2).2))]) rfl rfl rfl (head_x b (dBelow b c26 2).2 hb) rfl rfl (fun _ => rfl) (fun _ => rfl) ⟨rfl, trivial⟩ (fun _ => rfl) ?_
    rintro ⟨y53, c53⟩ g53
    dsimp only at g53 ⊢
    refine AN_p (x_field (off := 9) (o' := 9) rfl rfl rfl (by kernel_rfl) rfl) ?_
    refine AN_p (x_store (n := 1) rfl rfl rfl rfl (by kernel_rfl) rfl rfl rfl) ?_
    refine AN_nil ?_
    refine AW_seq ?_
    refine AW_regionN ?_
    refine AN_p (x_loadN (n := 10) rfl rfl rfl (by kernel_rfl) rfl rfl) ?_
    refine AN_p (x_store (n := 10) rfl rfl rfl rfl (by kernel_rfl) rfl rfl rfl) ?_
    refine AN_nil ?_
    refine AW_shutB 300 100 9 rfl rfl rfl rfl ?_
    refine AW_ret ?_
    refine ⟨⟨⟨_, _, _, _, _, ⟨_, _⟩, _, _, ⟨_⟩⟩, _⟩, ?_, rn [(9, 100)], by exact ⟨⟨⟨_, rfl, VLe.rf⟩, trivial⟩, ⟨⟨_, rfl, by first | exact BLe.rf | exact BLe.box (by repeat (first | exact trivial | refine ⟨by first | exact CLe.rf | exact CLe.nil, ?_⟩))⟩, ⟨_, rfl, BLe.rf⟩, trivial⟩, by repeat (first | exact trivial | refine ⟨⟨rfl, by first | (left; intro h; cases h) | (right; rfl), by first | exact (fun _ h => ⟨_, h⟩) | exact (fun _ _ => ⟨_, rfl⟩)⟩, ?_⟩), rfl⟩⟩
    refine ⟨⟨?_, ?_⟩, ⟨?_, fun _ _ => trivial⟩, ?_⟩
    all_goals (try unfold smallHead)
    all_goals (try dsimp only)
    all_goals first | omega | exact Nat.zero_le _ | (simp only [List.length_nil]; omega)
  try simp only [tdy] at h41
  refine AW_condT rfl ?_
  refine AW_regionN ?_
  refine AN_p (x_move rfl rfl) ?_
  have d43 := dBelow_lt b c26 (n := 5) (by decide)
  refine AN_p (x_call (ks := []) (L := [(200, some _)]) (L' := [(200, some _)]) rfl rfl rfl (below_c b c26 hb 5) rfl AllV.rf (caught_of rfl) rfl rfl rfl ⟨rfl, trivial⟩ rfl) ?_
  refine AN_p (x_field (off := 3) (o' := 3) rfl rfl rfl (by kernel_rfl) rfl) ?_
  refine AN_p (x_store (n := 1) rfl rfl rfl rfl (by kernel_rfl) rfl rfl rfl) ?_
  refine AN_nil ?_
  refine AW_seq ?_
  refine AW_seq ?_
  refine AW_regionN ?_
  refine AN_p (x_field (off := 0) (o' := 0) rfl rfl rfl (by kernel_rfl) rfl) ?_
  refine AN_p (x_load1 rfl rfl rfl (by kernel_rfl) rfl) ?_
  refine AN_b (x_eql rfl rfl rfl) (fun b47 h47 => ?_)
  refine AN_nil ?_
  cases b47
  · try simp only [tdy] at h47
    refine AW_condF rfl ?_
    refine AW_skip ?_
    refine AW_seq ?_
    refine AW_regionN ?_
    refine AN_p (x_loadN (n := 10) rfl rfl rfl (by kernel_rfl) rfl rfl) ?_
    refine AN_p (x_store (n := 10) rfl rfl rfl rfl (by kernel_rfl) rfl rfl rfl) ?_
    refine AN_nil ?_
    refine AW_ret ?_
    refine ⟨⟨⟨_, _, _, _, _, ⟨_, _⟩, _, _, ⟨_⟩⟩, _⟩, ?_, rn [(9, 100)], by exact ⟨⟨⟨_, rfl, VLe.rf⟩, trivial⟩, ⟨⟨_, rfl, by first | exact BLe.rf | exact BLe.box (by repeat (first | exact trivial | refine ⟨by first | exact CLe.rf | exact CLe.nil, ?_⟩))⟩, ⟨_, rfl, BLe.rf⟩, trivial⟩, by repeat (first | exact trivial | refine ⟨⟨rfl, by first | (left; intro h; cases h) | (right; rfl), by first | exact (fun _ h => ⟨_, h⟩) | exact (fun _ _ => ⟨_, rfl⟩)⟩, ?_⟩), rfl⟩⟩
    refine ⟨⟨?_, ?_⟩, ⟨?_, fun _ _ => trivial⟩, ?_⟩
    all_goals (try unfold smallHead)
    all_goals (try dsimp only)
    all_goals first | omega | exact Nat.zero_le _ | (simp only [List.length_nil]; omega)
  try simp only [tdy] at h47
  refine AW_condT rfl ?_
  refine AW_seq ?_
  refine AW_regionN ?_
  refine AN_p (x_move rfl rfl) ?_
  have d49 := dBelow_lt b (dBelow b c26 5).2 (n := 2) (by decide)
  refine AN_p (x_call (ks := []) (L := [(200, some _)]) (L' := [(200, some _)]) rfl rfl rfl (below_c b (dBelow b c26 5).2 hb 2) rfl AllV.rf (caught_of rfl) rfl rfl rfl ⟨rfl, trivial⟩ rfl) ?_
  refine AN_b (x_eql rfl rfl rfl) (fun b50 h50 => ?_)
  refine AN_p (x_field (off := 8) (o' := 8) rfl rfl rfl (by kernel_rfl) rfl) ?_
  refine AN_p (x_store (n := 1) rfl rfl rfl rfl (by kernel_rfl) rfl rfl rfl) ?_
  refine AN_nil ?_
  refine AW_regionN ?_
  refine AN_p (x_move rfl rfl) ?_
  refine AN_x (L := [(200, some (curB b (dBelow b (dBelow b c26 5).2 2).2))]) rfl rfl rfl (head_x b (dBelow b (dBelow b c26 5).2 2).2 hb) rfl rfl (fun _ => rfl) (fun _ => rfl) ⟨rfl, trivial⟩ (fun _ => rfl) ?_
  rintro ⟨y53, c53⟩ g53
  dsimp only at g53 ⊢
  refine AN_p (x_field (off := 9) (o' := 9) rfl rfl rfl (by kernel_rfl) rfl) ?_
  refine AN_p (x_store (n := 1) rfl rfl rfl rfl (by kernel_rfl) rfl rfl rfl) ?_
  refine AN_nil ?_
  refine AW_seq ?_
  refine AW_regionN ?_
  refine AN_p (x_loadN (n := 10) rfl rfl rfl (by kernel_rfl) rfl rfl) ?_
  refine AN_p (x_store (n := 10) rfl rfl rfl rfl (by kernel_rfl) rfl rfl rfl) ?_
  refine AN_nil ?_
  refine AW_shutB 300 100 9 rfl rfl rfl rfl ?_
  refine AW_ret ?_
  refine ⟨⟨⟨_, _, _, _, _, ⟨_, _⟩, _, _, ⟨_⟩⟩, _⟩, ?_, rn [(9, 100)], by exact ⟨⟨⟨_, rfl, VLe.rf⟩, trivial⟩, ⟨⟨_, rfl, by first | exact BLe.rf | exact BLe.box (by repeat (first | exact trivial | refine ⟨by first | exact CLe.rf | exact CLe.nil, ?_⟩))⟩, ⟨_, rfl, BLe.rf⟩, trivial⟩, by repeat (first | exact trivial | refine ⟨⟨rfl, by first | (left; intro h; cases h) | (right; rfl), by first | exact (fun _ h => ⟨_, h⟩) | exact (fun _ _ => ⟨_, rfl⟩)⟩, ?_⟩), rfl⟩⟩
  refine ⟨⟨?_, ?_⟩, ⟨?_, fun _ _ => trivial⟩, ?_⟩
  all_goals (try unfold smallHead)
  all_goals (try dsimp only)
  all_goals first | omega | exact Nat.zero_le _ | (simp only [List.length_nil]; omega)

set_option maxHeartbeats 4000000 in
theorem anyMsg_x (b : List Int) (c : Cur) (hb : b.length ≤ 1048576) : AX Try.prog 86 [.one (.ptr 200 0)] [(200, some (curB b c))] (ι := Msgt × Cur) (fun i => smallMsg i.1) (fun i => .agg (msgC i.1)) (fun i => [(200, some (curB b i.2))]) := by
  refine AX_bodyC (n := 10) (k := 9) (cs := fun (i : Msgt × Cur) => (msgC i.1)) (T := fun (_ : Msgt × Cur) => [(2, .one (.ptr 9 0))]) (Lf := fun (i : Msgt × Cur) => ((9, some (.box (msgC i.1))) :: [(200, some (curB b i.2))])) (L' := fun (i : Msgt × Cur) => [(200, some (curB b i.2))]) Try.func86 rfl rfl Try.ntmps86 rfl Try.results86 (fun _ => rfl) (fun _ => rfl) (by kernel_rfl) (fun _ => rfl) (fun _ => rfl) (fun (_ : Msgt × Cur) => ⟨trivial, (by repeat (first | exact trivial | refine ⟨⟨_, rfl, BLe.rf⟩, ?_⟩)), (by repeat (first | exact trivial | refine ⟨⟨rfl, by first | (left; intro h; cases h) | (right; rfl), by first | exact (fun _ h => ⟨_, h⟩) | exact (fun _ _ => ⟨_, rfl⟩)⟩, ?_⟩)), rfl⟩) ?_
  refine AW_seq ?_
  refine AW_regionN ?_
  refine AN_p (x_alloc (z := .agg #[.int .i64 0, .int .i64 0, .int .i64 0, .int .i64 0, .int .i64 0, .slice none 0 0, .slice none 0 0, .slice none 0 0, .bool false, .slice none 0 0]) 100 rfl (by kernel_rfl) rfl rfl rfl rfl) ?_
  refine AN_nil ?_
  refine AW_seq ?_
  refine AW_regionN ?_
  refine AN_p (x_move rfl rfl) ?_
  refine AN_x (L := [(200, some (curB b c))]) rfl rfl rfl (msg_x b c hb) rfl rfl (fun _ => rfl) (fun _ => rfl) ⟨rfl, trivial⟩ (fun _ => rfl) ?_
  rintro ⟨x6, c6⟩ g6
  dsimp only at g6 ⊢
  obtain ⟨kd, ses, xd, ep, pr, ⟨mv, mm⟩, ac, hd, ⟨hv⟩⟩ := x6
  obtain ⟨⟨s1, s2⟩, ⟨s3, s4⟩, s5⟩ := g6
  dsimp only [msgC] at s1 s2 s3 ⊢
  have s5 : hv.length ≤ 1048576 := s5
  refine AN_p (x_alloc (z := .agg #[.int .i64 0, .int .i64 0, .int .i64 0, .int .i64 0, .int .i64 0, .slice none 0 0, .slice none 0 0, .slice none 0 0, .bool false, .slice none 0 0]) 101 rfl (by kernel_rfl) rfl rfl rfl rfl) ?_
  refine AN_p (x_store (n := 10) rfl rfl rfl rfl (by kernel_rfl) rfl rfl rfl) ?_
  refine AN_nil ?_
  refine AW_seq ?_
  refine AW_regionN ?_
  refine AN_p (x_move rfl rfl) ?_
  have d8 := dBelow_lt b c6 (n := 20) (by decide)
  refine AN_p (x_call (ks := []) (L := [(200, some _)]) (L' := [(200, some _)]) rfl rfl rfl (below_c b c6 hb 20) rfl AllV.rf (caught_of rfl) rfl rfl rfl ⟨rfl, trivial⟩ rfl) ?_
  refine AN_p (x_assign rfl rfl) ?_
  refine AN_nil ?_
  refine AW_seq ?_
  refine AW_seq ?_
  refine AW_regionN ?_
  refine AN_p (x_move rfl rfl) ?_
  refine AN_b (x_eql rfl rfl rfl) (fun b10 h10 => ?_)
  refine AN_nil ?_
  cases b10
  rotate_left
  · try simp only [tdy] at h10
    refine AW_condT rfl ?_
    refine AW_regionN ?_
    refine AN_p (x_move rfl rfl) ?_
    refine AN_p (x_call (ks := []) (L := [(200, some _)]) (L' := [(200, some _)]) rfl rfl rfl (raw_c b (dBelow b c6 20).2 hb) rfl AllV.rf (caught_of rfl) rfl rfl rfl ⟨rfl, trivial⟩ rfl) ?_
    refine AN_p (x_field (off := 0) (o' := 0) rfl rfl rfl (by kernel_rfl) rfl) ?_
    refine AN_p (x_store (n := 1) rfl rfl rfl rfl (by kernel_rfl) rfl rfl rfl) ?_
    refine AN_nil ?_
    refine AW_seq ?_
    refine AW_seq ?_
    refine AW_regionN ?_
    refine AN_p (x_move rfl rfl) ?_
    refine AN_b (x_eql rfl rfl rfl) (fun b15 h15 => ?_)
    refine AN_nil ?_
    cases b15
    rotate_left
    · exfalso; simp at h15; omega
    try simp only [tdy] at h15
    refine AW_condF rfl ?_
    refine AW_skip ?_
    refine AW_seq ?_
    refine AW_seq ?_
    refine AW_regionN ?_
    refine AN_p (x_move rfl rfl) ?_
    refine AN_b (x_eql rfl rfl rfl) (fun b20 h20 => ?_)
    refine AN_nil ?_
    cases b20
    rotate_left
    · exfalso; simp at h20; omega
    try simp only [tdy] at h20
    refine AW_condF rfl ?_
    refine AW_skip ?_
    refine AW_seq ?_
    refine AW_seq ?_
    refine AW_regionN ?_
    refine AN_p (x_move rfl rfl) ?_
    refine AN_b (x_eql rfl rfl rfl) (fun b30 h30 => ?_)
    refine AN_nil ?_
    cases b30
    rotate_left
    · exfalso; simp at h30; omega
    try simp only [tdy] at h30
    refine AW_condF rfl ?_
    refine AW_skip ?_
    refine AW_seq ?_
    refine AW_seq ?_
    refine AW_regionN ?_
    refine AN_p (x_move rfl rfl) ?_
    refine AN_b (x_eql rfl rfl rfl) (fun b35 h35 => ?_)
    refine AN_nil ?_
    cases b35
    rotate_left
    · exfalso; simp at h35; omega
    try simp only [tdy] at h35
    refine AW_condF rfl ?_
    refine AW_skip ?_
    refine AW_seq ?_
    refine AW_seq ?_
    refine AW_regionN ?_
    refine AN_p (x_move rfl rfl) ?_
    refine AN_b (x_eql rfl rfl rfl) (fun b40 h40 => ?_)
    refine AN_nil ?_
    cases b40
    rotate_left
    · exfalso; simp at h40; omega
    try simp only [tdy] at h40
    refine AW_condF rfl ?_
    refine AW_skip ?_
    refine AW_seq ?_
    refine AW_seq ?_
    refine AW_regionN ?_
    refine AN_p (x_move rfl rfl) ?_
    refine AN_b (x_eql rfl rfl rfl) (fun b46 h46 => ?_)
    refine AN_nil ?_
    cases b46
    rotate_left
    · exfalso; simp at h46; omega
    try simp only [tdy] at h46
    refine AW_condF rfl ?_
    refine AW_skip ?_
    refine AW_seq ?_
    refine AW_seq ?_
    refine AW_regionN ?_
    refine AN_p (x_move rfl rfl) ?_
    refine AN_b (x_eql rfl rfl rfl) (fun b51 h51 => ?_)
    refine AN_nil ?_
    cases b51
    rotate_left
    · exfalso; simp at h51; omega
    try simp only [tdy] at h51
    refine AW_condF rfl ?_
    refine AW_skip ?_
    refine AW_seq ?_
    refine AW_seq ?_
    refine AW_regionN ?_
    refine AN_p (x_move rfl rfl) ?_
    refine AN_b (x_eql rfl rfl rfl) (fun b56 h56 => ?_)
    refine AN_nil ?_
    cases b56
    rotate_left
    · exfalso; simp at h56; omega
    try simp only [tdy] at h56
    refine AW_condF rfl ?_
    refine AW_skip ?_
    refine AW_seq ?_
    refine AW_regionN ?_
    refine AN_p (x_loadN (n := 10) rfl rfl rfl (by kernel_rfl) rfl rfl) ?_
    refine AN_p (x_store (n := 10) rfl rfl rfl rfl (by kernel_rfl) rfl rfl rfl) ?_
    refine AN_nil ?_
    refine AW_ret ?_
    refine ⟨⟨⟨_, _, _, _, _, ⟨_, _⟩, _, _, ⟨_⟩⟩, _⟩, ?_, rn [(9, 100)], by exact ⟨⟨⟨_, rfl, VLe.rf⟩, trivial⟩, ⟨⟨_, rfl, by first | exact BLe.rf | exact BLe.box (by repeat (first | exact trivial | refine ⟨by first | exact CLe.rf | exact CLe.nil, ?_⟩))⟩, ⟨_, rfl, BLe.rf⟩, trivial⟩, by repeat (first | exact trivial | refine ⟨⟨rfl, by first | (left; intro h; cases h) | (right; rfl), by first | exact (fun _ h => ⟨_, h⟩) | exact (fun _ _ => ⟨_, rfl⟩)⟩, ?_⟩), rfl⟩⟩
    refine ⟨⟨?_, ?_⟩, ⟨?_, fun _ _ => trivial⟩, ?_⟩
    all_goals (try unfold smallHead)
    all_goals (try dsimp only)
    all_goals first | omega | exact Nat.zero_le _ | (simp only [List.length_nil]; omega)
  try simp only [tdy] at h10
  refine AW_condF rfl ?_
  refine AW_skip ?_
  refine AW_seq ?_
  refine AW_seq ?_
  refine AW_regionN ?_
  refine AN_p (x_move rfl rfl) ?_
  refine AN_b (x_eql rfl rfl rfl) (fun b15 h15 => ?_)
  refine AN_nil ?_
  cases b15
  rotate_left
  · try simp only [tdy] at h15
    refine AW_condT rfl ?_
    refine AW_regionN ?_
    refine AN_p (x_move rfl rfl) ?_
    refine AN_p (x_call (ks := []) (L := [(200, some _)]) (L' := [(200, some _)]) rfl rfl rfl (raw_c b (dBelow b c6 20).2 hb) rfl AllV.rf (caught_of rfl) rfl rfl rfl ⟨rfl, trivial⟩ rfl) ?_
    refine AN_p (x_field (off := 1) (o' := 1) rfl rfl rfl (by kernel_rfl) rfl) ?_
    refine AN_p (x_store (n := 1) rfl rfl rfl rfl (by kernel_rfl) rfl rfl rfl) ?_
    refine AN_nil ?_
    refine AW_seq ?_
    refine AW_seq ?_
    refine AW_regionN ?_
    refine AN_p (x_move rfl rfl) ?_
    refine AN_b (x_eql rfl rfl rfl) (fun b20 h20 => ?_)
    refine AN_nil ?_
    cases b20
    rotate_left
    · exfalso; simp at h20; omega
    try simp only [tdy] at h20
    refine AW_condF rfl ?_
    refine AW_skip ?_
    refine AW_seq ?_
    refine AW_seq ?_
    refine AW_regionN ?_
    refine AN_p (x_move rfl rfl) ?_
    refine AN_b (x_eql rfl rfl rfl) (fun b30 h30 => ?_)
    refine AN_nil ?_
    cases b30
    rotate_left
    · exfalso; simp at h30; omega
    try simp only [tdy] at h30
    refine AW_condF rfl ?_
    refine AW_skip ?_
    refine AW_seq ?_
    refine AW_seq ?_
    refine AW_regionN ?_
    refine AN_p (x_move rfl rfl) ?_
    refine AN_b (x_eql rfl rfl rfl) (fun b35 h35 => ?_)
    refine AN_nil ?_
    cases b35
    rotate_left
    · exfalso; simp at h35; omega
    try simp only [tdy] at h35
    refine AW_condF rfl ?_
    refine AW_skip ?_
    refine AW_seq ?_
    refine AW_seq ?_
    refine AW_regionN ?_
    refine AN_p (x_move rfl rfl) ?_
    refine AN_b (x_eql rfl rfl rfl) (fun b40 h40 => ?_)
    refine AN_nil ?_
    cases b40
    rotate_left
    · exfalso; simp at h40; omega
    try simp only [tdy] at h40
    refine AW_condF rfl ?_
    refine AW_skip ?_
    refine AW_seq ?_
    refine AW_seq ?_
    refine AW_regionN ?_
    refine AN_p (x_move rfl rfl) ?_
    refine AN_b (x_eql rfl rfl rfl) (fun b46 h46 => ?_)
    refine AN_nil ?_
    cases b46
    rotate_left
    · exfalso; simp at h46; omega
    try simp only [tdy] at h46
    refine AW_condF rfl ?_
    refine AW_skip ?_
    refine AW_seq ?_
    refine AW_seq ?_
    refine AW_regionN ?_
    refine AN_p (x_move rfl rfl) ?_
    refine AN_b (x_eql rfl rfl rfl) (fun b51 h51 => ?_)
    refine AN_nil ?_
    cases b51
    rotate_left
    · exfalso; simp at h51; omega
    try simp only [tdy] at h51
    refine AW_condF rfl ?_
    refine AW_skip ?_
    refine AW_seq ?_
    refine AW_seq ?_
    refine AW_regionN ?_
    refine AN_p (x_move rfl rfl) ?_
    refine AN_b (x_eql rfl rfl rfl) (fun b56 h56 => ?_)
    refine AN_nil ?_
    cases b56
    rotate_left
    · exfalso; simp at h56; omega
    try simp only [tdy] at h56
    refine AW_condF rfl ?_
    refine AW_skip ?_
    refine AW_seq ?_
    refine AW_regionN ?_
    refine AN_p (x_loadN (n := 10) rfl rfl rfl (by kernel_rfl) rfl rfl) ?_
    refine AN_p (x_store (n := 10) rfl rfl rfl rfl (by kernel_rfl) rfl rfl rfl) ?_
    refine AN_nil ?_
    refine AW_ret ?_
    refine ⟨⟨⟨_, _, _, _, _, ⟨_, _⟩, _, _, ⟨_⟩⟩, _⟩, ?_, rn [(9, 100)], by exact ⟨⟨⟨_, rfl, VLe.rf⟩, trivial⟩, ⟨⟨_, rfl, by first | exact BLe.rf | exact BLe.box (by repeat (first | exact trivial | refine ⟨by first | exact CLe.rf | exact CLe.nil, ?_⟩))⟩, ⟨_, rfl, BLe.rf⟩, trivial⟩, by repeat (first | exact trivial | refine ⟨⟨rfl, by first | (left; intro h; cases h) | (right; rfl), by first | exact (fun _ h => ⟨_, h⟩) | exact (fun _ _ => ⟨_, rfl⟩)⟩, ?_⟩), rfl⟩⟩
    refine ⟨⟨?_, ?_⟩, ⟨?_, fun _ _ => trivial⟩, ?_⟩
    all_goals (try unfold smallHead)
    all_goals (try dsimp only)
    all_goals first | omega | exact Nat.zero_le _ | (simp only [List.length_nil]; omega)
  try simp only [tdy] at h15
  refine AW_condF rfl ?_
  refine AW_skip ?_
  refine AW_seq ?_
  refine AW_seq ?_
  refine AW_regionN ?_
  refine AN_p (x_move rfl rfl) ?_
  refine AN_b (x_eql rfl rfl rfl) (fun b20 h20 => ?_)
  refine AN_nil ?_
  cases b20
  rotate_left
  · try simp only [tdy] at h20
    refine AW_condT rfl ?_
    refine AW_regionN ?_
    refine AN_p (x_move rfl rfl) ?_
    refine AN_p (x_call (ks := []) (L := [(200, some _)]) (L' := [(200, some _)]) rfl rfl rfl (raw_c b (dBelow b c6 20).2 hb) rfl AllV.rf (caught_of rfl) rfl rfl rfl ⟨rfl, trivial⟩ rfl) ?_
    refine AN_p (y_bslice (E := 3) (e := (intE .i64)) [.const (.int .i64 (-1)), .const (.int .i64 (4294967296)), .tmp 22] ([-1, 4294967296, (dRaw b (dBelow b c6 20).2).1]) 102 rfl rfl rfl rfl rfl rfl rfl rfl FitL.rf rfl rfl rfl rfl rfl rfl (by kernel_rfl)) ?_
    refine AN_p (x_move rfl rfl) ?_
    have d25 := dBelow_lt b (dRaw b (dBelow b c6 20).2).2 (n := 3) (by decide)
    refine AN_p (x_call (ks := []) (L := [(200, some _)]) (L' := [(200, some _)]) rfl rfl rfl (below_c b (dRaw b (dBelow b c6 20).2).2 hb 3) rfl AllV.rf (caught_of rfl) rfl rfl rfl ⟨rfl, trivial⟩ rfl) ?_
    refine AN_p (x_oindex (n := 1) rfl rfl rfl rfl (by kernel_rfl) rfl (k := (dBelow b (dRaw b (dBelow b c6 20).2).2 3).1.toNat) (by omega) (by simp; omega)) ?_
    refine AN_p (x_oload1 rfl rfl rfl (by kernel_rfl) (by simp; omega) rfl) ?_
    refine AN_p (x_field (off := 2) (o' := 2) rfl rfl rfl (by kernel_rfl) rfl) ?_
    refine AN_p (x_store (n := 1) rfl rfl rfl rfl (by kernel_rfl) rfl rfl rfl) ?_
    refine AN_nil ?_
    refine AW_seq ?_
    refine AW_seq ?_
    refine AW_regionN ?_
    refine AN_p (x_move rfl rfl) ?_
    refine AN_b (x_eql rfl rfl rfl) (fun b30 h30 => ?_)
    refine AN_nil ?_
    cases b30
    rotate_left
    · exfalso; simp at h30; omega
    try simp only [tdy] at h30
    refine AW_condF rfl ?_
    refine AW_skip ?_
    refine AW_seq ?_
    refine AW_seq ?_
    refine AW_regionN ?_
    refine AN_p (x_move rfl rfl) ?_
    refine AN_b (x_eql rfl rfl rfl) (fun b35 h35 => ?_)
    refine AN_nil ?_
    cases b35
    rotate_left
    · exfalso; simp at h35; omega
    try simp only [tdy] at h35
    refine AW_condF rfl ?_
    refine AW_skip ?_
    refine AW_seq ?_
    refine AW_seq ?_
    refine AW_regionN ?_
    refine AN_p (x_move rfl rfl) ?_
    refine AN_b (x_eql rfl rfl rfl) (fun b40 h40 => ?_)
    refine AN_nil ?_
    cases b40
    rotate_left
    · exfalso; simp at h40; omega
    try simp only [tdy] at h40
    refine AW_condF rfl ?_
    refine AW_skip ?_
    refine AW_seq ?_
    refine AW_seq ?_
    refine AW_regionN ?_
    refine AN_p (x_move rfl rfl) ?_
    refine AN_b (x_eql rfl rfl rfl) (fun b46 h46 => ?_)
    refine AN_nil ?_
    cases b46
    rotate_left
    · exfalso; simp at h46; omega
    try simp only [tdy] at h46
    refine AW_condF rfl ?_
    refine AW_skip ?_
    refine AW_seq ?_
    refine AW_seq ?_
    refine AW_regionN ?_
    refine AN_p (x_move rfl rfl) ?_
    refine AN_b (x_eql rfl rfl rfl) (fun b51 h51 => ?_)
    refine AN_nil ?_
    cases b51
    rotate_left
    · exfalso; simp at h51; omega
    try simp only [tdy] at h51
    refine AW_condF rfl ?_
    refine AW_skip ?_
    refine AW_seq ?_
    refine AW_seq ?_
    refine AW_regionN ?_
    refine AN_p (x_move rfl rfl) ?_
    refine AN_b (x_eql rfl rfl rfl) (fun b56 h56 => ?_)
    refine AN_nil ?_
    cases b56
    rotate_left
    · exfalso; simp at h56; omega
    try simp only [tdy] at h56
    refine AW_condF rfl ?_
    refine AW_skip ?_
    refine AW_seq ?_
    refine AW_regionN ?_
    refine AN_p (x_loadN (n := 10) rfl rfl rfl (by kernel_rfl) rfl rfl) ?_
    refine AN_p (x_store (n := 10) rfl rfl rfl rfl (by kernel_rfl) rfl rfl rfl) ?_
    refine AN_nil ?_
    refine AW_ret ?_
    refine ⟨⟨⟨_, _, _, _, _, ⟨_, _⟩, _, _, ⟨_⟩⟩, _⟩, ?_, rn [(9, 100)], by exact ⟨⟨⟨_, rfl, VLe.rf⟩, trivial⟩, ⟨⟨_, rfl, by first | exact BLe.rf | exact BLe.box (by repeat (first | exact trivial | refine ⟨by first | exact CLe.rf | exact CLe.nil, ?_⟩))⟩, ⟨_, rfl, BLe.rf⟩, trivial⟩, by repeat (first | exact trivial | refine ⟨⟨rfl, by first | (left; intro h; cases h) | (right; rfl), by first | exact (fun _ h => ⟨_, h⟩) | exact (fun _ _ => ⟨_, rfl⟩)⟩, ?_⟩), rfl⟩⟩
    refine ⟨⟨?_, ?_⟩, ⟨?_, fun _ _ => trivial⟩, ?_⟩
    all_goals (try unfold smallHead)
    all_goals (try dsimp only)
    all_goals first | omega | exact Nat.zero_le _ | (simp only [List.length_nil]; omega)
  try simp only [tdy] at h20
  refine AW_condF rfl ?_
  refine AW_skip ?_
  refine AW_seq ?_
  refine AW_seq ?_
  refine AW_regionN ?_
  refine AN_p (x_move rfl rfl) ?_
  refine AN_b (x_eql rfl rfl rfl) (fun b30 h30 => ?_)
  refine AN_nil ?_
  cases b30
  rotate_left
  · try simp only [tdy] at h30
    refine AW_condT rfl ?_
    refine AW_regionN ?_
    refine AN_p (x_move rfl rfl) ?_
    refine AN_p (x_call (ks := []) (L := [(200, some _)]) (L' := [(200, some _)]) rfl rfl rfl (raw_c b (dBelow b c6 20).2 hb) rfl AllV.rf (caught_of rfl) rfl rfl rfl ⟨rfl, trivial⟩ rfl) ?_
    refine AN_p (x_field (off := 3) (o' := 3) rfl rfl rfl (by kernel_rfl) rfl) ?_
    refine AN_p (x_store (n := 1) rfl rfl rfl rfl (by kernel_rfl) rfl rfl rfl) ?_
    refine AN_nil ?_
    refine AW_seq ?_
    refine AW_seq ?_
    refine AW_regionN ?_
    refine AN_p (x_move rfl rfl) ?_
    refine AN_b (x_eql rfl rfl rfl) (fun b35 h35 => ?_)
    refine AN_nil ?_
    cases b35
    rotate_left
    · exfalso; simp at h35; omega
    try simp only [tdy] at h35
    refine AW_condF rfl ?_
    refine AW_skip ?_
    refine AW_seq ?_
    refine AW_seq ?_
    refine AW_regionN ?_
    refine AN_p (x_move rfl rfl) ?_
    refine AN_b (x_eql rfl rfl rfl) (fun b40 h40 => ?_)
    refine AN_nil ?_
    cases b40
    rotate_left
    · exfalso; simp at h40; omega
    try simp only [tdy] at h40
    refine AW_condF rfl ?_
    refine AW_skip ?_
    refine AW_seq ?_
    refine AW_seq ?_
    refine AW_regionN ?_
    refine AN_p (x_move rfl rfl) ?_
    refine AN_b (x_eql rfl rfl rfl) (fun b46 h46 => ?_)
    refine AN_nil ?_
    cases b46
    rotate_left
    · exfalso; simp at h46; omega
    try simp only [tdy] at h46
    refine AW_condF rfl ?_
    refine AW_skip ?_
    refine AW_seq ?_
    refine AW_seq ?_
    refine AW_regionN ?_
    refine AN_p (x_move rfl rfl) ?_
    refine AN_b (x_eql rfl rfl rfl) (fun b51 h51 => ?_)
    refine AN_nil ?_
    cases b51
    rotate_left
    · exfalso; simp at h51; omega
    try simp only [tdy] at h51
    refine AW_condF rfl ?_
    refine AW_skip ?_
    refine AW_seq ?_
    refine AW_seq ?_
    refine AW_regionN ?_
    refine AN_p (x_move rfl rfl) ?_
    refine AN_b (x_eql rfl rfl rfl) (fun b56 h56 => ?_)
    refine AN_nil ?_
    cases b56
    rotate_left
    · exfalso; simp at h56; omega
    try simp only [tdy] at h56
    refine AW_condF rfl ?_
    refine AW_skip ?_
    refine AW_seq ?_
    refine AW_regionN ?_
    refine AN_p (x_loadN (n := 10) rfl rfl rfl (by kernel_rfl) rfl rfl) ?_
    refine AN_p (x_store (n := 10) rfl rfl rfl rfl (by kernel_rfl) rfl rfl rfl) ?_
    refine AN_nil ?_
    refine AW_ret ?_
    refine ⟨⟨⟨_, _, _, _, _, ⟨_, _⟩, _, _, ⟨_⟩⟩, _⟩, ?_, rn [(9, 100)], by exact ⟨⟨⟨_, rfl, VLe.rf⟩, trivial⟩, ⟨⟨_, rfl, by first | exact BLe.rf | exact BLe.box (by repeat (first | exact trivial | refine ⟨by first | exact CLe.rf | exact CLe.nil, ?_⟩))⟩, ⟨_, rfl, BLe.rf⟩, trivial⟩, by repeat (first | exact trivial | refine ⟨⟨rfl, by first | (left; intro h; cases h) | (right; rfl), by first | exact (fun _ h => ⟨_, h⟩) | exact (fun _ _ => ⟨_, rfl⟩)⟩, ?_⟩), rfl⟩⟩
    refine ⟨⟨?_, ?_⟩, ⟨?_, fun _ _ => trivial⟩, ?_⟩
    all_goals (try unfold smallHead)
    all_goals (try dsimp only)
    all_goals first | omega | exact Nat.zero_le _ | (simp only [List.length_nil]; omega)
  try simp only [tdy] at h30
  refine AW_condF rfl ?_
  refine AW_skip ?_
  refine AW_seq ?_
  refine AW_seq ?_
  refine AW_regionN ?_
  refine AN_p (x_move rfl rfl) ?_
  refine AN_b (x_eql rfl rfl rfl) (fun b35 h35 => ?_)
  refine AN_nil ?_
  cases b35
  rotate_left
  · try simp only [tdy] at h35
    refine AW_condT rfl ?_
    refine AW_regionN ?_
    refine AN_p (x_move rfl rfl) ?_
    refine AN_p (x_call (ks := []) (L := [(200, some _)]) (L' := [(200, some _)]) rfl rfl rfl (raw_c b (dBelow b c6 20).2 hb) rfl AllV.rf (caught_of rfl) rfl rfl rfl ⟨rfl, trivial⟩ rfl) ?_
    refine AN_p (x_field (off := 4) (o' := 4) rfl rfl rfl (by kernel_rfl) rfl) ?_
    refine AN_p (x_store (n := 1) rfl rfl rfl rfl (by kernel_rfl) rfl rfl rfl) ?_
    refine AN_nil ?_
    refine AW_seq ?_
    refine AW_seq ?_
    refine AW_regionN ?_
    refine AN_p (x_move rfl rfl) ?_
    refine AN_b (x_eql rfl rfl rfl) (fun b40 h40 => ?_)
    refine AN_nil ?_
    cases b40
    rotate_left
    · exfalso; simp at h40; omega
    try simp only [tdy] at h40
    refine AW_condF rfl ?_
    refine AW_skip ?_
    refine AW_seq ?_
    refine AW_seq ?_
    refine AW_regionN ?_
    refine AN_p (x_move rfl rfl) ?_
    refine AN_b (x_eql rfl rfl rfl) (fun b46 h46 => ?_)
    refine AN_nil ?_
    cases b46
    rotate_left
    · exfalso; simp at h46; omega
    try simp only [tdy] at h46
    refine AW_condF rfl ?_
    refine AW_skip ?_
    refine AW_seq ?_
    refine AW_seq ?_
    refine AW_regionN ?_
    refine AN_p (x_move rfl rfl) ?_
    refine AN_b (x_eql rfl rfl rfl) (fun b51 h51 => ?_)
    refine AN_nil ?_
    cases b51
    rotate_left
    · exfalso; simp at h51; omega
    try simp only [tdy] at h51
    refine AW_condF rfl ?_
    refine AW_skip ?_
    refine AW_seq ?_
    refine AW_seq ?_
    refine AW_regionN ?_
    refine AN_p (x_move rfl rfl) ?_
    refine AN_b (x_eql rfl rfl rfl) (fun b56 h56 => ?_)
    refine AN_nil ?_
    cases b56
    rotate_left
    · exfalso; simp at h56; omega
    try simp only [tdy] at h56
    refine AW_condF rfl ?_
    refine AW_skip ?_
    refine AW_seq ?_
    refine AW_regionN ?_
    refine AN_p (x_loadN (n := 10) rfl rfl rfl (by kernel_rfl) rfl rfl) ?_
    refine AN_p (x_store (n := 10) rfl rfl rfl rfl (by kernel_rfl) rfl rfl rfl) ?_
    refine AN_nil ?_
    refine AW_ret ?_
    refine ⟨⟨⟨_, _, _, _, _, ⟨_, _⟩, _, _, ⟨_⟩⟩, _⟩, ?_, rn [(9, 100)], by exact ⟨⟨⟨_, rfl, VLe.rf⟩, trivial⟩, ⟨⟨_, rfl, by first | exact BLe.rf | exact BLe.box (by repeat (first | exact trivial | refine ⟨by first | exact CLe.rf | exact CLe.nil, ?_⟩))⟩, ⟨_, rfl, BLe.rf⟩, trivial⟩, by repeat (first | exact trivial | refine ⟨⟨rfl, by first | (left; intro h; cases h) | (right; rfl), by first | exact (fun _ h => ⟨_, h⟩) | exact (fun _ _ => ⟨_, rfl⟩)⟩, ?_⟩), rfl⟩⟩
    refine ⟨⟨?_, ?_⟩, ⟨?_, fun _ _ => trivial⟩, ?_⟩
    all_goals (try unfold smallHead)
    all_goals (try dsimp only)
    all_goals first | omega | exact Nat.zero_le _ | (simp only [List.length_nil]; omega)
  try simp only [tdy] at h35
  refine AW_condF rfl ?_
  refine AW_skip ?_
  refine AW_seq ?_
  refine AW_seq ?_
  refine AW_regionN ?_
  refine AN_p (x_move rfl rfl) ?_
  refine AN_b (x_eql rfl rfl rfl) (fun b40 h40 => ?_)
  refine AN_nil ?_
  cases b40
  rotate_left
  · try simp only [tdy] at h40
    refine AW_condT rfl ?_
    refine AW_regionN ?_
    refine AN_p (x_field (off := 8) (o' := 8) rfl rfl rfl (by kernel_rfl) rfl) ?_
    refine AN_b (x_load1 rfl rfl rfl (by kernel_rfl) rfl) (fun b42 h42 => ?_)
    refine AN_p (x_not rfl rfl) ?_
    refine AN_p (x_field (off := 8) (o' := 8) rfl rfl rfl (by kernel_rfl) rfl) ?_
    refine AN_p (x_store (n := 1) rfl rfl rfl rfl (by kernel_rfl) rfl rfl rfl) ?_
    refine AN_nil ?_
    refine AW_seq ?_
    refine AW_seq ?_
    refine AW_regionN ?_
    refine AN_p (x_move rfl rfl) ?_
    refine AN_b (x_eql rfl rfl rfl) (fun b46 h46 => ?_)
    refine AN_nil ?_
    cases b46
    rotate_left
    · exfalso; simp at h46; omega
    try simp only [tdy] at h46
    refine AW_condF rfl ?_
    refine AW_skip ?_
    refine AW_seq ?_
    refine AW_seq ?_
    refine AW_regionN ?_
    refine AN_p (x_move rfl rfl) ?_
    refine AN_b (x_eql rfl rfl rfl) (fun b51 h51 => ?_)
    refine AN_nil ?_
    cases b51
    rotate_left
    · exfalso; simp at h51; omega
    try simp only [tdy] at h51
    refine AW_condF rfl ?_
    refine AW_skip ?_
    refine AW_seq ?_
    refine AW_seq ?_
    refine AW_regionN ?_
    refine AN_p (x_move rfl rfl) ?_
    refine AN_b (x_eql rfl rfl rfl) (fun b56 h56 => ?_)
    refine AN_nil ?_
    cases b56
    rotate_left
    · exfalso; simp at h56; omega
    try simp only [tdy] at h56
    refine AW_condF rfl ?_
    refine AW_skip ?_
    refine AW_seq ?_
    refine AW_regionN ?_
    refine AN_p (x_loadN (n := 10) rfl rfl rfl (by kernel_rfl) rfl rfl) ?_
    refine AN_p (x_store (n := 10) rfl rfl rfl rfl (by kernel_rfl) rfl rfl rfl) ?_
    refine AN_nil ?_
    refine AW_ret ?_
    refine ⟨⟨⟨_, _, _, _, _, ⟨_, _⟩, _, _, ⟨_⟩⟩, _⟩, ?_, rn [(9, 100)], by exact ⟨⟨⟨_, rfl, VLe.rf⟩, trivial⟩, ⟨⟨_, rfl, by first | exact BLe.rf | exact BLe.box (by repeat (first | exact trivial | refine ⟨by first | exact CLe.rf | exact CLe.nil, ?_⟩))⟩, ⟨_, rfl, BLe.rf⟩, trivial⟩, by repeat (first | exact trivial | refine ⟨⟨rfl, by first | (left; intro h; cases h) | (right; rfl), by first | exact (fun _ h => ⟨_, h⟩) | exact (fun _ _ => ⟨_, rfl⟩)⟩, ?_⟩), rfl⟩⟩
    refine ⟨⟨?_, ?_⟩, ⟨?_, fun _ _ => trivial⟩, ?_⟩
    all_goals (try unfold smallHead)
    all_goals (try dsimp only)
    all_goals first | omega | exact Nat.zero_le _ | (simp only [List.length_nil]; omega)
  try simp only [tdy] at h40
  refine AW_condF rfl ?_
  refine AW_skip ?_
  refine AW_seq ?_
  refine AW_seq ?_
  refine AW_regionN ?_
  refine AN_p (x_move rfl rfl) ?_
  refine AN_b (x_eql rfl rfl rfl) (fun b46 h46 => ?_)
  refine AN_nil ?_
  cases b46
  rotate_left
  · try simp only [tdy] at h46
    refine AW_condT rfl ?_
    refine AW_regionN ?_
    refine AN_p (x_move rfl rfl) ?_
    refine AN_x (L := [(200, some (curB b (dBelow b c6 20).2))]) rfl rfl rfl (anyHead_x b (dBelow b c6 20).2 hb) rfl rfl (fun _ => rfl) (fun _ => rfl) ⟨rfl, trivial⟩ (fun _ => rfl) ?_
    rintro ⟨y48, c48⟩ g48
    dsimp only at g48 ⊢
    refine AN_p (x_field (off := 9) (o' := 9) rfl rfl rfl (by kernel_rfl) rfl) ?_
    refine AN_p (x_store (n := 1) rfl rfl rfl rfl (by kernel_rfl) rfl rfl rfl) ?_
    refine AN_nil ?_
    refine AW_seq ?_
    refine AW_seq ?_
    refine AW_regionN ?_
    refine AN_p (x_move rfl rfl) ?_
    refine AN_b (x_eql rfl rfl rfl) (fun b51 h51 => ?_)
    refine AN_nil ?_
    cases b51
    rotate_left
    · exfalso; simp at h51; omega
    try simp only [tdy] at h51
    refine AW_condF rfl ?_
    refine AW_skip ?_
    refine AW_seq ?_
    refine AW_seq ?_
    refine AW_regionN ?_
    refine AN_p (x_move rfl rfl) ?_
    refine AN_b (x_eql rfl rfl rfl) (fun b56 h56 => ?_)
    refine AN_nil ?_
    cases b56
    rotate_left
    · exfalso; simp at h56; omega
    try simp only [tdy] at h56
    refine AW_condF rfl ?_
    refine AW_skip ?_
    refine AW_seq ?_
    refine AW_regionN ?_
    refine AN_p (x_loadN (n := 10) rfl rfl rfl (by kernel_rfl) rfl rfl) ?_
    refine AN_p (x_store (n := 10) rfl rfl rfl rfl (by kernel_rfl) rfl rfl rfl) ?_
    refine AN_nil ?_
    refine AW_ret ?_
    refine ⟨⟨⟨_, _, _, _, _, ⟨_, _⟩, _, _, ⟨_⟩⟩, _⟩, ?_, rn [(9, 100)], by exact ⟨⟨⟨_, rfl, VLe.rf⟩, trivial⟩, ⟨⟨_, rfl, by first | exact BLe.rf | exact BLe.box (by repeat (first | exact trivial | refine ⟨by first | exact CLe.rf | exact CLe.nil, ?_⟩))⟩, ⟨_, rfl, BLe.rf⟩, trivial⟩, by repeat (first | exact trivial | refine ⟨⟨rfl, by first | (left; intro h; cases h) | (right; rfl), by first | exact (fun _ h => ⟨_, h⟩) | exact (fun _ _ => ⟨_, rfl⟩)⟩, ?_⟩), rfl⟩⟩
    refine ⟨⟨?_, ?_⟩, ⟨?_, fun _ _ => trivial⟩, ?_⟩
    all_goals (try unfold smallHead)
    all_goals (try dsimp only)
    all_goals first | omega | exact Nat.zero_le _ | (simp only [List.length_nil]; omega)
  try simp only [tdy] at h46
  refine AW_condF rfl ?_
  refine AW_skip ?_
  refine AW_seq ?_
  refine AW_seq ?_
  refine AW_regionN ?_
  refine AN_p (x_move rfl rfl) ?_
  refine AN_b (x_eql rfl rfl rfl) (fun b51 h51 => ?_)
  refine AN_nil ?_
  cases b51
  rotate_left
  · try simp only [tdy] at h51
    refine AW_condT rfl ?_
    refine AW_regionN ?_
    refine AN_p (x_move rfl rfl) ?_
    refine AN_x (L := [(200, some (curB b (dBelow b c6 20).2))]) rfl rfl rfl (anyActs_x b (dBelow b c6 20).2 hb) rfl rfl (fun _ => rfl) (fun _ => rfl) ⟨rfl, trivial⟩ (fun _ => rfl) ?_
    rintro ⟨y53, c53⟩ g53
    dsimp only at g53 ⊢
    refine AN_p (x_field (off := 7) (o' := 7) rfl rfl rfl (by kernel_rfl) rfl) ?_
    refine AN_p (x_store (n := 1) rfl rfl rfl rfl (by kernel_rfl) rfl rfl rfl) ?_
    refine AN_nil ?_
    refine AW_seq ?_
    refine AW_seq ?_
    refine AW_regionN ?_
    refine AN_p (x_move rfl rfl) ?_
    refine AN_b (x_eql rfl rfl rfl) (fun b56 h56 => ?_)
    refine AN_nil ?_
    cases b56
    rotate_left
    · exfalso; simp at h56; omega
    try simp only [tdy] at h56
    refine AW_condF rfl ?_
    refine AW_skip ?_
    refine AW_seq ?_
    refine AW_regionN ?_
    refine AN_p (x_loadN (n := 10) rfl rfl rfl (by kernel_rfl) rfl rfl) ?_
    refine AN_p (x_store (n := 10) rfl rfl rfl rfl (by kernel_rfl) rfl rfl rfl) ?_
    refine AN_nil ?_
    refine AW_ret ?_
    refine ⟨⟨⟨_, _, _, _, _, ⟨_, _⟩, _, _, ⟨_⟩⟩, _⟩, ?_, rn [(9, 100)], by exact ⟨⟨⟨_, rfl, VLe.rf⟩, trivial⟩, ⟨⟨_, rfl, by first | exact BLe.rf | exact BLe.box (by repeat (first | exact trivial | refine ⟨by first | exact CLe.rf | exact CLe.nil, ?_⟩))⟩, ⟨_, rfl, BLe.rf⟩, trivial⟩, by repeat (first | exact trivial | refine ⟨⟨rfl, by first | (left; intro h; cases h) | (right; rfl), by first | exact (fun _ h => ⟨_, h⟩) | exact (fun _ _ => ⟨_, rfl⟩)⟩, ?_⟩), rfl⟩⟩
    refine ⟨⟨?_, ?_⟩, ⟨?_, fun _ _ => trivial⟩, ?_⟩
    all_goals (try unfold smallHead)
    all_goals (try dsimp only)
    all_goals first | omega | exact Nat.zero_le _ | (simp only [List.length_nil]; omega)
  try simp only [tdy] at h51
  refine AW_condF rfl ?_
  refine AW_skip ?_
  refine AW_seq ?_
  refine AW_seq ?_
  refine AW_regionN ?_
  refine AN_p (x_move rfl rfl) ?_
  refine AN_b (x_eql rfl rfl rfl) (fun b56 h56 => ?_)
  refine AN_nil ?_
  cases b56
  · try simp only [tdy] at h56
    refine AW_condF rfl ?_
    refine AW_skip ?_
    refine AW_seq ?_
    refine AW_regionN ?_
    refine AN_p (x_loadN (n := 10) rfl rfl rfl (by kernel_rfl) rfl rfl) ?_
    refine AN_p (x_store (n := 10) rfl rfl rfl rfl (by kernel_rfl) rfl rfl rfl) ?_
    refine AN_nil ?_
    refine AW_ret ?_
    refine ⟨⟨⟨_, _, _, _, _, ⟨_, _⟩, _, _, ⟨_⟩⟩, _⟩, ?_, rn [(9, 100)], by exact ⟨⟨⟨_, rfl, VLe.rf⟩, trivial⟩, ⟨⟨_, rfl, by first | exact BLe.rf | exact BLe.box (by repeat (first | exact trivial | refine ⟨by first | exact CLe.rf | exact CLe.nil, ?_⟩))⟩, ⟨_, rfl, BLe.rf⟩, trivial⟩, by repeat (first | exact trivial | refine ⟨⟨rfl, by first | (left; intro h; cases h) | (right; rfl), by first | exact (fun _ h => ⟨_, h⟩) | exact (fun _ _ => ⟨_, rfl⟩)⟩, ?_⟩), rfl⟩⟩
    refine ⟨⟨?_, ?_⟩, ⟨?_, fun _ _ => trivial⟩, ?_⟩
    all_goals (try unfold smallHead)
    all_goals (try dsimp only)
    all_goals first | omega | exact Nat.zero_le _ | (simp only [List.length_nil]; omega)
  try simp only [tdy] at h56
  refine AW_condT rfl ?_
  refine AW_regionN ?_
  refine AN_p (x_move rfl rfl) ?_
  refine AN_x (L := [(200, some (curB b (dBelow b c6 20).2))]) rfl rfl rfl (anyMatch_x b (dBelow b c6 20).2 hb) rfl rfl (fun _ => rfl) (fun _ => rfl) ⟨rfl, trivial⟩ (fun _ => rfl) ?_
  rintro ⟨y58, c58⟩ g58
  dsimp only at g58 ⊢
  obtain ⟨ga, gb⟩ := g58
  obtain ⟨yv, ym⟩ := y58
  dsimp only at ga gb ⊢
  refine AN_p (x_field (off := 5) (o' := 5) rfl rfl rfl (by kernel_rfl) rfl) ?_
  refine AN_p (x_store (n := 2) rfl rfl rfl rfl (by kernel_rfl) rfl rfl rfl) ?_
  refine AN_nil ?_
  refine AW_seq ?_
  refine AW_regionN ?_
  refine AN_p (x_loadN (n := 10) rfl rfl rfl (by kernel_rfl) rfl rfl) ?_
  refine AN_p (x_store (n := 10) rfl rfl rfl rfl (by kernel_rfl) rfl rfl rfl) ?_
  refine AN_nil ?_
  refine AW_ret ?_
  refine ⟨⟨⟨_, _, _, _, _, ⟨_, _⟩, _, _, ⟨_⟩⟩, _⟩, ?_, rn [(9, 100)], by exact ⟨⟨⟨_, rfl, VLe.rf⟩, trivial⟩, ⟨⟨_, rfl, by first | exact BLe.rf | exact BLe.box (by repeat (first | exact trivial | refine ⟨by first | exact CLe.rf | exact CLe.nil, ?_⟩))⟩, ⟨_, rfl, BLe.rf⟩, trivial⟩, by repeat (first | exact trivial | refine ⟨⟨rfl, by first | (left; intro h; cases h) | (right; rfl), by first | exact (fun _ h => ⟨_, h⟩) | exact (fun _ _ => ⟨_, rfl⟩)⟩, ?_⟩), rfl⟩⟩
  refine ⟨⟨?_, ?_⟩, ⟨?_, fun _ _ => trivial⟩, ?_⟩
  all_goals (try unfold smallHead)
  all_goals (try dsimp only)
  all_goals first | omega | exact Nat.zero_le _ | (simp only [List.length_nil]; omega)

set_option maxHeartbeats 4000000 in
theorem drawMsg_x (b : List Int) (hb : b.length ≤ 1048576) : AX Try.prog 33 [.one (.sl (intE .u8) b)] [] (ι := Msgt) (fun i => smallMsg i) (fun i => .agg (msgC i)) (fun i => []) := by
  refine AX_bodyC (n := 10) (k := 9) (cs := fun (i : Msgt) => (msgC i)) (T := fun (_ : Msgt) => [(2, .one (.ptr 9 0))]) (Lf := fun (i : Msgt) => ((9, some (.box (msgC i))) :: [])) (L' := fun (i : Msgt) => []) Try.func33 rfl rfl Try.ntmps33 rfl Try.results33 (fun _ => rfl) (fun _ => rfl) (by kernel_rfl) (fun _ => rfl) (fun _ => rfl) (fun (_ : Msgt) => ⟨trivial, (by repeat (first | exact trivial | refine ⟨⟨_, rfl, BLe.rf⟩, ?_⟩)), (by repeat (first | exact trivial | refine ⟨⟨rfl, by first | (left; intro h; cases h) | (right; rfl), by first | exact (fun _ h => ⟨_, h⟩) | exact (fun _ _ => ⟨_, rfl⟩)⟩, ?_⟩)), rfl⟩) ?_
  refine AW_seq ?_
  refine AW_regionN ?_
  refine AN_p (x_alloc (z := .agg #[.int .i64 0, .int .i64 0, .int .i64 0, .int .i64 0, .int .i64 0, .slice none 0 0, .slice none 0 0, .slice none 0 0, .bool false, .slice none 0 0]) 100 rfl (by kernel_rfl) rfl rfl rfl rfl) ?_
  refine AN_nil ?_
  refine AW_seq ?_
  refine AW_regionN ?_
  refine AN_p (x_move rfl rfl) ?_
  refine AN_p (x_call1 rfl rfl rfl (new_c b hb) rfl rfl rfl rfl) ?_
  refine AN_p (x_assign rfl rfl) ?_
  refine AN_nil ?_
  refine AW_seq ?_
  refine AW_regionN ?_
  refine AN_p (x_move rfl rfl) ?_
  refine AN_x (L := [(200, some (curB b (dNew b)))]) rfl rfl rfl (anyMsg_x b (dNew b) hb) rfl rfl (fun _ => rfl) (fun _ => rfl) ⟨rfl, trivial⟩ (fun _ => rfl) ?_
  rintro ⟨x8, c8⟩ g8
  dsimp only at g8 ⊢
  refine AN_p (x_alloc (z := .agg #[.int .i64 0, .int .i64 0, .int .i64 0, .int .i64 0, .int .i64 0, .slice none 0 0, .slice none 0 0, .slice none 0 0, .bool false, .slice none 0 0]) 101 rfl (by kernel_rfl) rfl rfl rfl rfl) ?_
  refine AN_p (x_store (n := 10) rfl rfl rfl rfl (by kernel_rfl) rfl rfl rfl) ?_
  refine AN_nil ?_
  refine AW_seq ?_
  refine AW_regionN ?_
  refine AN_p (x_loadN (n := 10) rfl rfl rfl (by kernel_rfl) rfl rfl) ?_
  refine AN_p (x_store (n := 10) rfl rfl rfl rfl (by kernel_rfl) rfl rfl rfl) ?_
  refine AN_nil ?_
  refine AW_ret ?_
  refine ⟨⟨_, _, _, _, _, ⟨_, _⟩, _, _, ⟨_⟩⟩, ?_, rn [(9, 100)], by exact ⟨⟨⟨_, rfl, VLe.rf⟩, trivial⟩, ⟨⟨_, rfl, by first | exact BLe.rf | exact BLe.box (by repeat (first | exact trivial | refine ⟨by first | exact CLe.rf | exact CLe.nil, ?_⟩))⟩, trivial⟩, by repeat (first | exact trivial | refine ⟨⟨rfl, by first | (left; intro h; cases h) | (right; rfl), by first | exact (fun _ h => ⟨_, h⟩) | exact (fun _ _ => ⟨_, rfl⟩)⟩, ?_⟩), rfl⟩⟩
  exact g8
end Go.Proofs.Ytfdpigafekohgaa

/- The laws' marks: MarkE (printed by genmark.py) -/
namespace Go.Proofs.Ytfdpigafekohgaa
open Go.RowKit
set_option linter.unusedVariables false
set_option linter.unusedSimpArgs false
set_option maxRecDepth 100000

end Go.Proofs.Ytfdpigafekohgaa

/- Sizes of data (printed by mktot.py) -/
namespace Go.Proofs.Ytfdpigafekohgaa
open Go.RowKit
set_option linter.unusedVariables false

end Go.Proofs.Ytfdpigafekohgaa

/- How much a message's marks count. -/
namespace Go.Proofs.Ytfdpigafekohgaa
open Go.RowKit
set_option linter.unusedVariables false

end Go.Proofs.Ytfdpigafekohgaa

/- Messages that are drawn (printed by walk.py) -/
namespace Go.Proofs.Ytfdpigafekohgaa
open Go.RowKit
set_option linter.unusedVariables false
set_option linter.unusedSimpArgs false
set_option maxRecDepth 100000

theorem strSelf (s : ByteArray) : (s == s) = true := by
  cases s
  have h : ∀ a : Array UInt8, (a == a) = true := fun a => by simp
  exact h _
theorem msgBytes_snd (m : Msgt) : (msgBytes m).2 = msgB m := by
  unfold msgBytes
  cases h : msgB m <;> rfl
theorem msgRead_none {m : Msgt} (h : (msgBytes m).2 = false) : msgRead (msgBytes m).1 = (zeroM, 1) := by
  rw [msgBytes_no (by rw [← msgBytes_snd]; exact h)]
  exact msgRead_1 (.inl (by decide))

set_option maxHeartbeats 4000000 in
theorem lawFnMsg.fn (b : List Int) : AC Try.prog 8 [.one (.sl (intE .u8) b)] [] (.one (.c (.bool true))) [] := by
  refine AC_body1 Try.func8 rfl rfl Try.ntmps8 rfl Try.results8 ?_
  refine AW_seq ?_
  refine AW_regionN ?_
  refine AN_p (x_assign rfl rfl) ?_
  refine AN_nil ?_
  refine AW_seq ?_
  refine AW_seq ?_
  refine AW_regionN ?_
  refine AN_p (x_move rfl rfl) ?_
  refine AN_p (x_len (E := 5) (n := 1) rfl rfl (by kernel_rfl)) ?_
  refine AN_b (x_gtr rfl rfl rfl) (fun b14 h14 => ?_)
  refine AN_nil ?_
  cases b14
  rotate_left
  · try simp only [tdy] at h14
    refine AW_condT rfl ?_
    refine AW_seq ?_
    refine AW_regionN ?_
    refine AN_p (x_assign rfl rfl) ?_
    refine AN_nil ?_
    refine AW_ret ?_
    exact ⟨rn [], ⟨⟨⟨_, rfl, vle_bool rfl⟩, trivial⟩, trivial, trivial, rfl⟩⟩
  try simp only [tdy] at h14
  have hb : b.length ≤ 1048576 := by omega
  refine AW_condF rfl ?_
  refine AW_skip ?_
  refine AW_seq ?_
  refine AW_regionN ?_
  refine AN_p (x_move rfl rfl) ?_
  refine AN_x rfl rfl rfl (drawMsg_x b hb) rfl rfl (fun _ => rfl) (fun _ => rfl) trivial (fun _ => rfl) ?_
  rintro m16 g16
  try dsimp only at g16
  try dsimp only
  refine AN_p (x_alloc (z := .agg #[.int .i64 0, .int .i64 0, .int .i64 0, .int .i64 0, .int .i64 0, .slice none 0 0, .slice none 0 0, .slice none 0 0, .bool false, .slice none 0 0]) 100 rfl (by kernel_rfl) rfl rfl rfl rfl) ?_
  refine AN_p (x_store (n := 10) rfl rfl rfl rfl (by kernel_rfl) rfl rfl rfl) ?_
  refine AN_nil ?_
  refine AW_seq ?_
  refine AW_aggint 16 5 rfl rfl (fun hi => ?_)
  refine AW_regionN ?_
  refine AN_p (x_loadN (n := 10) rfl rfl rfl (by kernel_rfl) rfl rfl) ?_
  refine AN_p (x_call1 rfl rfl rfl (msgBytesI_c m16 101) rfl rfl rfl rfl) ?_
  refine AN_p (x_move rfl rfl) ?_
  refine AN_p (x_extract rfl rfl rfl) ?_
  refine AN_b (x_extract rfl rfl rfl) (fun b21 h21 => ?_)
  refine AN_p (x_assign rfl rfl) ?_
  refine AN_p (x_assign rfl rfl) ?_
  refine AN_nil ?_
  refine AW_seq ?_
  refine AW_seq ?_
  refine AW_shut 101 4 rfl rfl ?_
  refine AW_regionN ?_
  refine AN_p (x_move rfl rfl) ?_
  refine AN_p (x_loadN (n := 10) rfl rfl rfl (by kernel_rfl) rfl rfl) ?_
  refine AN_b (x_call0 rfl rfl rfl (msgS_c m16) rfl rfl) (fun b24 h24 => ?_)
  refine AN_b (x_bneq rfl rfl rfl (by kernel_rfl)) (fun b25 h25 => ?_)
  refine AN_nil ?_
  cases b25
  rotate_left
  · exfalso; rw [← h21, ← h24, msgBytes_snd] at h25; simp at h25
  try simp only [tdy] at h25
  refine AW_condF rfl ?_
  refine AW_skip ?_
  refine AW_seq ?_
  refine AW_regionN ?_
  refine AN_p (x_move rfl rfl) ?_
  refine AN_p (x_callR rfl rfl rfl ((AC.renum (res := .tup [.agg [.c (.int .i64 (msgRead ((msgBytes m16).1)).1.kind), .c (.int .i64 (msgRead ((msgBytes m16).1)).1.session), .c (.int .i64 (msgRead ((msgBytes m16).1)).1.xid), .c (.int .i64 (msgRead ((msgBytes m16).1)).1.epoch), .c (.int .i64 (msgRead ((msgBytes m16).1)).1.prio), .own 102, .own 103, .own 104, .c (.bool (msgRead ((msgBytes m16).1)).1.hand), .own 105], .one (.c (.int .i64 (msgRead ((msgBytes m16).1)).2))]) (L := [(102, some (.arr 3 (intE .i64) (msgRead ((msgBytes m16).1)).1.mat.v true)), (103, some (.arr 3 (intE .i64) (msgRead ((msgBytes m16).1)).1.mat.m true)), (104, some (.arr 114 actE (msgRead ((msgBytes m16).1)).1.acts true)), (105, some (.arr 3 (intE .i64) (msgRead ((msgBytes m16).1)).1.head.v true))]) (r := rn [(102, 0), (103, 1), (104, 2), (105, 3)]) (msgReadI_c ((msgBytes m16).1)) ⟨⟨_, rfl, BLe.rf⟩, ⟨_, rfl, BLe.rf⟩, ⟨_, rfl, BLe.rf⟩, ⟨_, rfl, BLe.rf⟩, trivial⟩ rfl)) rfl AllV.rf rfl rfl rfl rfl rfl) ?_
  refine AN_p (x_move rfl rfl) ?_
  refine AN_p (x_extract rfl rfl rfl) ?_
  refine AN_p (x_extract rfl rfl rfl) ?_
  refine AN_p (x_alloc (z := .agg #[.int .i64 0, .int .i64 0, .int .i64 0, .int .i64 0, .int .i64 0, .slice none 0 0, .slice none 0 0, .slice none 0 0, .bool false, .slice none 0 0]) 106 rfl (by kernel_rfl) rfl rfl rfl rfl) ?_
  refine AN_p (x_store (n := 10) rfl rfl rfl rfl (by kernel_rfl) rfl rfl rfl) ?_
  refine AN_p (x_assign rfl rfl) ?_
  refine AN_nil ?_
  refine AW_seq ?_
  refine AW_seq ?_
  refine AW_regionN ?_
  refine AN_p (x_move rfl rfl) ?_
  refine AN_p (x_not rfl rfl) ?_
  refine AN_nil ?_
  cases b21
  · try simp only [tdy] at h21
    have e2 : msgRead (msgBytes m16).1 = (zeroM, 1) := msgRead_none h21
    refine AW_condT rfl ?_
    refine AW_seq ?_
    refine AW_regionN ?_
    refine AN_p (x_move rfl rfl) ?_
    refine AN_b (x_eql rfl rfl rfl) (fun b34 h34 => ?_)
    refine AN_p (x_move rfl rfl) ?_
    cases b34
    · exfalso; rw [e2] at h34; simp at h34
    try simp only [tdy] at h34
    refine AN_g rfl rfl (x_field (off := 0) (o' := 0) rfl rfl rfl (by kernel_rfl) rfl) ?_
    refine AN_g rfl rfl (x_load1 rfl rfl rfl (by kernel_rfl) rfl) ?_
    refine AN_gb rfl rfl (x_eql rfl rfl rfl) (fun b38 h38 => ?_)
    refine AN_p (x_pickT rfl rfl rfl) ?_
    refine AN_p (x_assign rfl rfl) ?_
    refine AN_nil ?_
    refine AW_ret ?_
    cases b38
    · exfalso; rw [e2] at h38; simp [zeroM] at h38
    try simp only [tdy] at h38
    exact ⟨rn [], ⟨⟨⟨_, rfl, vle_bool rfl⟩, trivial⟩, trivial, trivial, rfl⟩⟩
  try simp only [tdy] at h21
  have e2 := msgRead_yes (m := m16) (b := (msgBytes m16).1) (Prod.ext rfl h21) (fun x hx => (hi x hx).2)
  refine AW_condF rfl ?_
  refine AW_skip ?_
  refine AW_seq ?_
  refine AW_shutB 102 106 5 rfl rfl rfl rfl ?_
  refine AW_shutB 103 106 6 rfl rfl rfl rfl ?_
  refine AW_shutB 104 106 7 rfl rfl rfl rfl ?_
  refine AW_shutB 105 106 9 rfl rfl rfl rfl ?_
  refine AW_regionN ?_
  refine AN_p (x_loadN (n := 10) rfl rfl rfl (by kernel_rfl) rfl rfl) ?_
  refine AN_p (x_call1 rfl rfl rfl (msgBytesI_c (msgRead (msgBytes m16).1).1 107) rfl rfl rfl rfl) ?_
  refine AN_p (x_move rfl rfl) ?_
  refine AN_p (x_extract rfl rfl rfl) ?_
  refine AN_b (x_extract rfl rfl rfl) (fun b44 h44 => ?_)
  refine AN_p (x_assign rfl rfl) ?_
  refine AN_p (x_assign rfl rfl) ?_
  refine AN_nil ?_
  refine AW_seq ?_
  refine AW_regionN ?_
  refine AN_p (x_loadN (n := 10) rfl rfl rfl (by kernel_rfl) rfl rfl) ?_
  refine AN_p (x_call1 rfl rfl rfl (msgBytesS_c m16 108) rfl rfl rfl rfl) ?_
  refine AN_p (x_move rfl rfl) ?_
  refine AN_p (x_extract rfl rfl rfl) ?_
  refine AN_b (x_extract rfl rfl rfl) (fun b49 h49 => ?_)
  refine AN_p (x_assign rfl rfl) ?_
  refine AN_p (x_assign rfl rfl) ?_
  refine AN_nil ?_
  refine AW_seq ?_
  refine AW_shut 107 8 rfl rfl ?_
  refine AW_shut 108 10 rfl rfl ?_
  refine AW_regionN ?_
  refine AN_p (x_move rfl rfl) ?_
  refine AN_b (x_eql rfl rfl rfl) (fun b51 h51 => ?_)
  refine AN_p (x_move rfl rfl) ?_
  cases b51
  · exfalso; rw [e2] at h51; simp at h51
  try simp only [tdy] at h51
  refine AN_g rfl rfl (x_move rfl rfl) ?_
  refine AN_p (x_pickT rfl rfl rfl) ?_
  refine AN_p (x_move rfl rfl) ?_
  cases b44
  · exfalso; rw [e2] at h44; exact absurd (h21.symm.trans h44) (by decide)
  try simp only [tdy] at h44
  refine AN_g rfl rfl (x_move rfl rfl) ?_
  refine AN_g rfl rfl (x_tostr (E := 5) rfl rfl (by kernel_rfl)) ?_
  refine AN_g rfl rfl (x_move rfl rfl) ?_
  refine AN_g rfl rfl (x_tostr (E := 5) rfl rfl (by kernel_rfl)) ?_
  refine AN_gb rfl rfl (x_seql rfl rfl rfl) (fun b60 h60 => ?_)
  refine AN_p (x_pickT rfl rfl rfl) ?_
  refine AN_p (x_move rfl rfl) ?_
  cases b60
  · exfalso; rw [e2] at h60; exact absurd (h60.symm.trans (strSelf _)) (by decide)
  try simp only [tdy] at h60
  refine AN_g rfl rfl (x_field (off := 0) (o' := 0) rfl rfl rfl (by kernel_rfl) rfl) ?_
  refine AN_g rfl rfl (x_load1 rfl rfl rfl (by kernel_rfl) rfl) ?_
  refine AN_g rfl rfl (x_field (off := 0) (o' := 0) rfl rfl rfl (by kernel_rfl) rfl) ?_
  refine AN_g rfl rfl (x_load1 rfl rfl rfl (by kernel_rfl) rfl) ?_
  refine AN_gb rfl rfl (x_eql rfl rfl rfl) (fun b67 h67 => ?_)
  refine AN_p (x_pickT rfl rfl rfl) ?_
  refine AN_p (x_assign rfl rfl) ?_
  refine AN_nil ?_
  refine AW_ret ?_
  cases b67
  · exfalso; rw [e2] at h67; simp at h67
  try simp only [tdy] at h67
  exact ⟨rn [], ⟨⟨⟨_, rfl, vle_bool rfl⟩, trivial⟩, trivial, trivial, rfl⟩⟩
theorem lawFnMsg.walk (w : World) (a0 : Option Addr) (n0 c0 : Nat) (x0 : List Int) (bs0 : List Nat) (g0 : SliceRep (intE .u8) w a0 n0 c0 x0 bs0) : Calls Try.prog 8 #[.slice a0 n0 c0] w fun e w' => e = .returned (.bool true) ∧ Below w.heap.size w w' :=
  (lawFnMsg.fn x0).calls w _ ⟨arg_sl g0 (fun i hi => (sliceE (intE .u8)).lt (sliceE_iff.2 g0) i hi), trivial⟩
end Go.Proofs.Ytfdpigafekohgaa

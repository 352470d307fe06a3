/- Lemmas of the walks, part 5. -/
import Derived.Test.YtkemjhlbokldhaaGreatP4
namespace Go.Proofs.YtkemjhlbokldhaaGreat
open Go.RowKit
set_option linter.unusedVariables false

def safeC (B : List Nat) : Cell → Prop
 | .c _ => True
 | .own _ => True
 | .ptr _ _ => True
 | .optr _ _ _ => True
 | .any => True
 | .hd _ _ => True
 | .rx _ _ _ b _ => b = B
 | _ => False
def safeCs (B : List Nat) : List Cell → Prop
 | [] => True
 | c :: r => safeC B c ∧ safeCs B r
def safeV (B : List Nat) : AVal → Prop
 | .one x => safeC B x
 | .agg xs => safeCs B xs
 | .tup _ => False
def safeT (B : List Nat) : DV → Prop
 | [] => True
 | p :: r => safeV B p.2 ∧ safeT B r
def safeB (B : List Nat) : Option Blk → Prop
 | none => True
 | some (.box cs) => safeCs B cs
 | some (.arr _ _ _ d) => d = true
def safeL (B : List Nat) : Locs → Prop
 | [] => True
 | p :: r => safeB B p.2 ∧ safeL B r
def boxes : Locs → Bool
 | [] => true
 | (_, some (.box _)) :: r => boxes r
 | _ :: _ => false
theorem safeCs_get {B : List Nat} : ∀ {cs : List Cell}, safeCs B cs → ∀ {c : Cell}, c ∈ cs → safeC B c
 | [], _, c, h => by cases h
 | x :: r, hs, c, h => by
   rcases List.mem_cons.1 h with rfl | h
   · exact hs.1
   · exact safeCs_get hs.2 h
theorem safeT_get {B : List Nat} : ∀ {t : DV}, safeT B t → ∀ {k : Nat} {x : AVal}, (k, x) ∈ t → safeV B x
 | [], _, _, _, h => by cases h
 | p :: r, hs, k, x, h => by
   rcases List.mem_cons.1 h with rfl | h
   · exact hs.1
   · exact safeT_get hs.2 h
theorem safeL_get {B : List Nat} : ∀ {l : Locs}, safeL B l → ∀ {k : Nat} {x : Option Blk}, (k, x) ∈ l → safeB B x
 | [], _, _, _, h => by cases h
 | p :: r, hs, k, x, h => by
   rcases List.mem_cons.1 h with rfl | h
   · exact hs.1
   · exact safeL_get hs.2 h
theorem boxes_get : ∀ {l : Locs}, boxes l = true → ∀ {k : Nat} {b : Blk}, (k, some b) ∈ l → ∃ cs, b = .box cs
 | [], _, _, _, h => by cases h
 | (j, some (.box cs)) :: r, hb, k, b, h => by
   rcases List.mem_cons.1 h with e | h
   · cases e; exact ⟨cs, rfl⟩
   · exact boxes_get (l := r) hb h
 | (j, none) :: r, hb, k, b, h => by cases hb
 | (j, some (.arr _ _ _ _)) :: r, hb, k, b, h => by cases hb
theorem CellR.safe {g g' : Gh} {l l' : Locs} {w : World} {v : Value} {c : Cell} {B : List Nat} (hc : safeC B c) (hB : ∀ b ∈ B, g'.I b) (hok : ∀ k ∈ c.ids, okK g l g' l' k) (h : CellR g l w v c) : CellR g' l' w v c := by
 cases c with
 | c u => exact h
 | own k =>
   intro α T e xs d hl
   obtain ⟨β, T0, e0, xs0, d0, h0, h1, _⟩ := (hok k (by simp [Cell.ids])).2 α T e xs d hl
   rw [h1]; exact h β T0 e0 xs0 d0 h0
 | ptr k off =>
   intro cs hl
   obtain ⟨h1, cs0, h0⟩ := (hok k (by simp [Cell.ids])).1 cs hl
   rw [h1]; exact h cs0 h0
 | optr k i off =>
   intro α T e xs d hl
   obtain ⟨β, T0, e0, xs0, d0, h0, _, h2, h3⟩ := (hok k (by simp [Cell.ids])).2 α T e xs d hl
   rw [h2, h3]; exact h β T0 e0 xs0 d0 h0
 | any => trivial
 | hd k V =>
   intro α T e xs d hl
   obtain ⟨β, T0, e0, xs0, d0, h0, h1, _⟩ := (hok k (by simp [Cell.ids])).2 α T e xs d hl
   rw [h1]; exact h β T0 e0 xs0 d0 h0
 | rx e x vs b j =>
   have hc : b = B := hc
   subst hc
   obtain ⟨h1, h2, _⟩ := h
   exact ⟨h1, h2, hB⟩
 | sl e xs => exact hc.elim
 | ep e x off => exact hc.elim
 | clo f ks => exact hc.elim
 | sn e xs => exact hc.elim
 | slo b e xs => exact hc.elim
 | epo b e x off => exact hc.elim
 | osl k lo n => exact hc.elim
 | en e x => exact hc.elim
theorem All2.safe {g g' : Gh} {l l' : Locs} {w : World} {B : List Nat} (hB : ∀ b ∈ B, g'.I b) : ∀ {vs : List Value} {cs : List Cell}, safeCs B cs → (∀ c ∈ cs, ∀ k ∈ c.ids, okK g l g' l' k) → All2 (CellR g l w) vs cs → All2 (CellR g' l' w) vs cs := fun hs hok h =>
 h.mono fun a c hc hr => CellR.safe (safeCs_get hs hc) hB (hok c hc) hr
theorem VR.safe {g g' : Gh} {l l' : Locs} {w : World} {v : Value} {x : AVal} {B : List Nat} (hc : safeV B x) (hB : ∀ b ∈ B, g'.I b) (hok : ∀ k ∈ x.ids, okK g l g' l' k) (h : VR g l w v x) : VR g' l' w v x := by
 cases x with
 | one c => exact CellR.safe hc hB hok h
 | agg cs =>
   obtain ⟨vs, h1, h2⟩ := h
   exact ⟨vs, h1, h2.safe hB hc fun c hm k hk => hok k (List.mem_flatMap.2 ⟨c, hm, hk⟩)⟩
 | tup _ => exact hc.elim

section
variable {P : Program} {N : Nat} {K : List Nat} {l0 : Locs} {Kn : St → Prop} {Q : Exit → St → Prop} {s : St}
theorem AV_open {α β γ : Type} {RE T : TypeId} {e : Enc α} {e' : Enc γ} {ei : Enc β} {xs : List α} {zs : List β} {ys : Value → List γ} {c : Code} {B : List Nat} (R k t : Nat)
   (hR : lkl s.l R = some (.arr RE e xs true)) (hO : Opened e xs T ei zs e' ys) (hne : xs ≠ []) (hsz : e'.size = e.size) (hlen : ∀ V, (ys V).length = xs.length)
   (hk : lk s.l k = none) (hki : FZ k s.ids = true) (hl0 : boxes l0 = true) (hB : ∀ (g0 : Gh) (w0 : World), MemR g0 l0 w0 → ∀ b ∈ B, g0.I b) (hsT : safeT B s.t) (hsL : safeL B s.l)
   (h : ∀ V, AV P N K l0 c Kn Q ⟨(t, .one (.hd k V)) :: s.t, (k, some (.arr T ei zs false)) :: (R, some (.arr RE e' (ys V) false)) :: s.l⟩) : AV P N K l0 c Kn Q s := fun g0 w0 m0 g a w r hs => by
 have m := r.mem
 have hkl : lkl s.l k = none := by unfold lkl; rw [hk]
 have hRk : R ≠ k := fun q => by subst q; rw [hR] at hkl; cases hkl
 rcases m.arr R _ _ _ _ _ hR with ⟨h1, _⟩ | ⟨cap, vs, bss, h1, h2, h3, h4, h5, h6, h7, h8, h9⟩
 · exact absurd h1 hne
 have hF : g.F R = bss.flatten := h9 rfl
 obtain ⟨nd, hfr⟩ := m.fr R _ _ _ _ hR
 obtain ⟨V, bss', hb, hE', hsub, hcase⟩ := hO w (g.ρ R) bss h6 (hF ▸ nd)
 have hbF : V ≠ .slice none 0 0 → hb ∈ g.F R := fun hv => by
   rcases hcase with ⟨q, _⟩ | ⟨_, _, _, _, _, _, _, _, _, q, _⟩
   · exact absurd q hv
   · rw [hF]; exact q
 obtain ⟨g', hg'⟩ : ∃ g' : Gh, g' = { I := fun b => g.I b ∧ (V = .slice none 0 0 ∨ b ≠ hb), ρ := fun j => if j = k then hb else g.ρ j, hd := fun j => if j = k then V else g.hd j, F := g.F } := ⟨_, rfl⟩
 have gI : ∀ b, g'.I b ↔ g.I b ∧ (V = .slice none 0 0 ∨ b ≠ hb) := fun b => by rw [hg']
 have gρ : ∀ j, j ≠ k → g'.ρ j = g.ρ j := fun j hj => by rw [hg']; exact if_neg hj
 have gh : ∀ j, j ≠ k → g'.hd j = g.hd j := fun j hj => by rw [hg']; exact if_neg hj
 have gρk : g'.ρ k = hb := by rw [hg']; exact if_pos rfl
 have ghk : g'.hd k = V := by rw [hg']; exact if_pos rfl
 have gF : ∀ j, g'.F j = g.F j := fun j => by rw [hg']
 clear hg'
 have keepI : ∀ b, g.I b → (V ≠ .slice none 0 0 → b ≠ hb) → g'.I b := fun b h hn => (gI b).2 ⟨h, by
   by_cases q : V = .slice none 0 0
   · exact .inl q
   · exact .inr (hn q)⟩

 have old : ∀ b, g0.I b → b ∉ g.F R := fun b hI hm => by
   rcases hs.own b ⟨R, _, hR, .inr ⟨α, RE, e, xs, rfl, hm⟩⟩ with ⟨j, blk, hj, hh⟩ | hge
   · obtain ⟨cs, rfl⟩ := boxes_get hl0 (lkl_mem hj)
     rcases hh with ⟨hl, rfl⟩ | ⟨_, _, _, _, q, _⟩
     · exact m0.notI hj hl hI
     · cases q
   · have := m0.ilt b hI; omega
 have imm0 : ∀ b, g0.I b → g'.I b := fun b hI => keepI b (hs.imm b hI) fun hv e => old b hI (e ▸ hbF hv)
 have hBI : ∀ b ∈ B, g'.I b := fun b hb => imm0 b (hB g0 w0 m0 b hb)
 generalize hl' : (k, some (Blk.arr T ei zs false)) :: (R, some (Blk.arr RE e' (ys V) false)) :: s.l = l'
 have lk1 : lkl l' k = some (.arr T ei zs false) := by rw [← hl', Bb]
 have lk2 : lkl l' R = some (.arr RE e' (ys V) false) := by rw [← hl', Bs (Ne.symm hRk), Bb]
 have lk3 : ∀ j, j ≠ k → j ≠ R → lkl l' j = lkl s.l j := fun j a b => by rw [← hl', Bs (Ne.symm a), Bs (Ne.symm b)]
 have tri : ∀ j b, lkl l' j = some b → (j = k ∧ b = .arr T ei zs false) ∨ (j = R ∧ b = .arr RE e' (ys V) false) ∨ (j ≠ k ∧ j ≠ R ∧ lkl s.l j = some b) := fun j b hj => by
   by_cases a : j = k
   · subst a; rw [lk1] at hj; cases hj; exact .inl ⟨rfl, rfl⟩
   · by_cases b : j = R
     · subst b; rw [lk2] at hj; cases hj; exact .inr (.inl ⟨rfl, rfl⟩)
     · rw [lk3 j a b] at hj; exact .inr (.inr ⟨a, b, hj⟩)
 have okAll : ∀ j, j ≠ k → okK g s.l g' l' j := fun j hj => by
   by_cases q : j = R
   · subst q
     exact ⟨fun cs hc => (by rw [lk2] at hc; cases hc), fun β' U e2 zs' d hc => by rw [lk2] at hc; cases hc; exact ⟨_, _, _, _, _, hR, gh _ hj, gρ _ hj, hsz⟩⟩
   · exact okK.same (lk3 j hj q) (gρ j hj) (gh j hj)
 have nk : ∀ i ∈ s.ids, i ≠ k := fun i hi q => Er hki (q ▸ hi)
 have liv' : ∀ j b, j ≠ k → liv g' j b → liv g j b := fun j b hj hl => by
   cases b with
   | box cs => trivial
   | arr U e2 zs' d => exact fun q => hl (by rw [gh j hj]; exact q)
 have hbI : V ≠ .slice none 0 0 → g.I hb := fun hv => (hfr hb (hbF hv)).1
 have m' : MemR g' l' w := by
   refine ⟨fun b hb => m.ilt b ((gI b).1 hb).1, fun j cs hj => ?_, fun j β' U e2 zs' d hj => ?_, fun i j b b' hij hi hj li lj => ?_, fun j β' U e2 zs' hj => ?_, fun i j α' β' U U' e2 e3 us vs' hij hi hj b hb hb' => ?_⟩
   · rcases tri j _ hj with ⟨_, q⟩ | ⟨_, q⟩ | ⟨a1, a2, a3⟩
     · cases q
     · cases q
     · obtain ⟨vs0, t0, q1, q2, q3⟩ := m.box j cs a3
       exact ⟨vs0, t0, by rw [gρ j a1]; exact q1, q2.safe hBI (safeL_get hsL (lkl_mem a3)) fun c hc i hi => okAll i (nk i (List.mem_append_right _ (Locs.ids_mem a3 hc hi))), by rw [gρ j a1]; exact fun hI => q3 ((gI _).1 hI).1⟩
   · rcases tri j _ hj with ⟨rfl, q⟩ | ⟨rfl, q⟩ | ⟨a1, a2, a3⟩
     · cases q
       rcases hcase with ⟨q1, q2⟩ | ⟨cap', vs', bi, q1, q2, q3, q4, q5, q6, q7, q8⟩
       · exact .inl ⟨q2, ghk.trans q1, fun q => by cases q⟩
       · have hv : V ≠ .slice none 0 0 := by rw [q1]; intro q; cases q
         refine .inr ⟨cap', vs', bi, by rw [ghk, gρk]; exact q1, q2, q3, by rw [gρk]; exact q4, q5, by rw [gρk]; exact q6, fun b hb => keepI b (hfr b (by rw [hF]; exact (q8 b hb).1)).1 fun _ => (q8 b hb).2, fun hI => ?_, fun q => by cases q⟩
         rw [gρk] at hI
         exact ((gI _).1 hI).2.elim hv fun q => q rfl
     · cases q
       refine .inr ⟨cap, vs, bss', by rw [gh _ hRk, gρ _ hRk, hlen]; exact h1, by rw [hlen]; exact h2, h3, by rw [gρ _ hRk]; exact h4, by rw [hsz]; exact h5, by rw [gρ _ hRk]; exact hE', fun b hb => keepI b (h7 b (hsub b hb).1) fun hv => (hsub b hb).2.resolve_left hv, fun hI => ?_, fun q => by cases q⟩
       rw [gρ _ hRk] at hI
       exact h8 ((gI _).1 hI).1
     · have hd : d = true := safeL_get hsL (lkl_mem a3)
       subst hd
       rcases m.arr j _ _ _ _ _ a3 with ⟨q1, q2, q3⟩ | ⟨cap', vs', bi, q1, q2, q3, q4, q5, q6, q7, q8, q9⟩
       · exact .inl ⟨q1, (gh j a1).trans q2, fun hd => (gF j).trans (q3 hd)⟩
       · refine .inr ⟨cap', vs', bi, by rw [gh j a1, gρ j a1]; exact q1, q2, q3, by rw [gρ j a1]; exact q4, q5, by rw [gρ j a1]; exact q6, fun b hb => keepI b (q7 b hb) fun hv e => ?_, by rw [gρ j a1]; exact fun hI => q8 ((gI _).1 hI).1, fun hd => (gF j).trans (q9 hd)⟩
         exact m.fd j R _ _ _ _ _ _ _ _ a2 a3 hR b (by rw [q9 rfl]; exact hb) (e ▸ hbF hv)
   · rcases tri i _ hi with ⟨rfl, q⟩ | ⟨rfl, q⟩ | ⟨a1, a2, a3⟩
     · subst q
       have hv : V ≠ .slice none 0 0 := fun q => li (ghk.trans q)
       rw [gρk]
       have hji : j ≠ i := Ne.symm hij
       rw [gρ j hji]
       rcases tri j _ hj with ⟨q, _⟩ | ⟨rfl, _⟩ | ⟨c1, c2, c3⟩
       · exact absurd q hji
       · exact fun q => h8 (q ▸ hbI hv)
       · exact fun q => m.notI c3 (liv' j _ c1 lj) (q ▸ hbI hv)
     · subst q
       have hlR : liv g i (.arr RE e xs true) := by show g.hd i ≠ _; rw [h1]; intro q; cases q
       rw [gρ _ hRk]
       rcases tri j _ hj with ⟨rfl, q⟩ | ⟨q, _⟩ | ⟨c1, c2, c3⟩
       · subst q
         have hv : V ≠ .slice none 0 0 := fun q => lj (ghk.trans q)
         rw [gρk]
         exact fun q => h8 (q ▸ hbI hv)
       · exact absurd q.symm hij
       · rw [gρ j c1]; exact m.dis i j _ _ hij hR c3 hlR (liv' j _ c1 lj)
     · rw [gρ i a1]
       rcases tri j _ hj with ⟨rfl, q⟩ | ⟨rfl, q⟩ | ⟨c1, c2, c3⟩
       · subst q
         have hv : V ≠ .slice none 0 0 := fun q => lj (ghk.trans q)
         rw [gρk]
         exact fun q => m.notI a3 (liv' i _ a1 li) (q ▸ hbI hv)
       · subst q
         have hlR : liv g j (.arr RE e xs true) := by show g.hd j ≠ _; rw [h1]; intro q; cases q
         rw [gρ _ hRk]; exact m.dis i j _ _ hij a3 hR (liv' i _ a1 li) hlR
       · rw [gρ j c1]; exact m.dis i j _ _ hij a3 c3 (liv' i _ a1 li) (liv' j _ c1 lj)
   · rcases tri j _ hj with ⟨_, q⟩ | ⟨_, q⟩ | ⟨a1, a2, a3⟩
     · cases q
     · cases q
     · obtain ⟨n1, n2⟩ := m.fr j _ _ _ _ a3
       rw [gF]
       exact ⟨n1, fun b hb => ⟨keepI b (n2 b hb).1 fun hv q => m.fd j R _ _ _ _ _ _ _ _ a2 a3 hR b hb (q ▸ hbF hv), (n2 b hb).2⟩⟩
   · rw [gF] at hb hb'
     rcases tri i _ hi with ⟨_, q⟩ | ⟨_, q⟩ | ⟨a1, a2, a3⟩
     · cases q
     · cases q
     · rcases tri j _ hj with ⟨_, q⟩ | ⟨_, q⟩ | ⟨c1, c2, c3⟩
       · cases q
       · cases q
       · exact m.fd i j _ _ _ _ _ _ _ _ hij a3 c3 b hb hb'
 have ownS : ∀ b, OwnB g' l' b → OwnB g s.l b := fun b hb => by
   obtain ⟨j, blk, hj, hh⟩ := hb
   rcases tri j _ hj with ⟨rfl, rfl⟩ | ⟨rfl, rfl⟩ | ⟨a1, a2, a3⟩
   · rcases hh with ⟨hl, q⟩ | ⟨_, _, _, _, q, _⟩
     · have hv : V ≠ .slice none 0 0 := fun q => hl (ghk.trans q)
       exact ⟨R, _, hR, .inr ⟨α, RE, e, xs, rfl, by rw [q, gρk]; exact hbF hv⟩⟩
     · cases q
   · rcases hh with ⟨hl, q⟩ | ⟨_, _, _, _, q, _⟩
     · exact ⟨j, _, hR, .inl ⟨fun q2 => hl (by rw [gh _ hRk]; exact q2), by rw [q, gρ _ hRk]⟩⟩
     · cases q
   · rcases hh with ⟨hl, q⟩ | ⟨β', U, e2, zs', rfl, q⟩
     · exact ⟨j, _, a3, .inl ⟨liv' j _ a1 hl, by rw [q, gρ j a1]⟩⟩
     · exact ⟨j, _, a3, .inr ⟨β', U, e2, zs', rfl, by rw [← gF]; exact q⟩⟩
 have key2 : ∀ j, lk s.l j ≠ none → lk l' j ≠ none := fun j hj => by
   rw [← hl']
   by_cases a : k = j
   · subst a; rw [Bv]; simp
   · rw [B6 a]
     by_cases b : R = j
     · subst b; rw [Bv]; simp
     · rw [B6 b]; exact hj
 have st' : Step K g0 l0 w0 g' l' w := ⟨hs.os, hs.tape, hs.output, hs.size, hs.keep, imm0, fun b hb => hs.imm' b ((gI b).1 hb).1, fun b hb => hs.own b (ownS b hb), fun j hj hn => by
   obtain ⟨a1, a2, a3⟩ := hs.base j hj hn
   have hjk : j ≠ k := fun q => a1 (q ▸ hk)
   refine ⟨key2 j a1, a2.trans (okAll j hjk), fun cs hc => ?_⟩
   obtain ⟨cs', hc'⟩ := a3 cs hc
   have hjR : j ≠ R := fun q => by subst q; rw [hR] at hc'; cases hc'
   exact ⟨cs', by rw [lk3 j hjk hjR]; exact hc'⟩⟩
 have h' := h V
 rw [hl'] at h'
 refine h' g0 w0 m0 g' a w ⟨r.size, r.defers, fun j x hj => ?_, m'⟩ st'
 by_cases hjt : t = j
 · subst hjt
   rw [Bv] at hj; cases hj
   exact fun _ _ _ _ _ _ => ghk
 · rw [B6 hjt] at hj
   exact (r.tmp j x hj).safe (safeT_get hsT (HE hj)) hBI fun i hi => okAll i (nk i (List.mem_append_left _ (List.mem_flatMap.2 ⟨_, HE hj, hi⟩)))
end

section
variable {g : Gh} {l : Locs} {w : World}
theorem recode_mem {α β : Type} {T : TypeId} {e : Enc α} {e' : Enc β} {xs : List α} {xs' : List β} {dp : Bool} (m : MemR g l w) {k : Nat} (hk : lkl l k = some (.arr T e xs dp)) (hsz : e'.size = e.size) (hlen : xs'.length = xs.length)
   (hE : ∀ bss, Elems e w (g.ρ k) 0 xs bss → (∀ b ∈ bss.flatten, g.I b) → ∃ bss', Elems e' w (g.ρ k) 0 xs' bss' ∧ ∀ b ∈ bss'.flatten, g.I b) :
   MemR g ((k, some (.arr T e' xs' false)) :: l) w ∧ (∀ K, Step K g l w g ((k, some (.arr T e' xs' false)) :: l) w) ∧ ∀ j, okK g l g ((k, some (.arr T e' xs' false)) :: l) j := by
 have ok : ∀ j, okK g l g ((k, some (.arr T e' xs' false)) :: l) j := fun j => by
   by_cases q : k = j
   · subst q
     exact ⟨fun cs h => (by rw [Bb] at h; cases h), fun β U e2 ys d h => by rw [Bb] at h; cases h; exact ⟨_, _, _, _, _, hk, rfl, rfl, hsz⟩⟩
   · exact okK.same (Bs q) rfl rfl
 have back : ∀ j b, lkl ((k, some (Blk.arr T e' xs' false)) :: l) j = some b → ∃ b', lkl l j = some b' ∧ (liv g j b ↔ liv g j b') ∧ (∀ (β : Type) (U : TypeId) (e2 : Enc β) (ys : List β), b = .arr U e2 ys true → b' = .arr U e2 ys true) := fun j b h => by
   by_cases q : k = j
   · subst q
     rw [Bb] at h; cases h
     exact ⟨_, hk, Iff.rfl, fun β U e2 ys h => by cases h⟩
   · rw [Bs q] at h
     exact ⟨b, h, Iff.rfl, fun _ _ _ _ h => h⟩
 refine ⟨⟨m.ilt, fun j cs h => ?_, fun j β U e2 ys d h => ?_, fun i j b b' hij h1 h2 l1 l2 => ?_, fun j β U e2 ys h => ?_, fun i j β γ U V e2 e3 ys zs hij h1 h2 => ?_⟩, fun K => ⟨rfl, rfl, rfl, Nat.le_refl _, fun _ _ _ => rfl, fun _ h => h, fun _ h => .inl h, fun b hb => ?_, fun j hj hn => ⟨?_, ok j, fun cs hc => ?_⟩⟩, ok⟩
 · by_cases q : k = j
   · subst q; rw [Bb] at h; cases h
   · rw [Bs q] at h
     obtain ⟨vs, t, h1, h2, h3⟩ := m.box j cs h
     exact ⟨vs, t, h1, h2.mono fun a c _ hr => CellR.step (fun _ _ => rfl) (fun _ h => h) (Nat.le_refl _) (fun i _ => ok i) hr, h3⟩
 · by_cases q : k = j
   · subst q
     rw [Bb] at h; cases h
     rcases m.arr k _ _ _ _ _ hk with ⟨h1, h2, _⟩ | ⟨cap, vs, bss, h1, h2, h3, h4, h5, h6, h7, h8, _⟩
     · exact .inl ⟨by subst h1; exact List.length_eq_zero_iff.1 hlen, h2, fun h => by cases h⟩
     · obtain ⟨bss', q1, q2⟩ := hE bss h6 h7
       exact .inr ⟨cap, vs, bss', by rw [hlen]; exact h1, by rw [hlen]; exact h2, h3, h4, by rw [hsz]; exact h5, q1, q2, h8, fun h => by cases h⟩
   · rw [Bs q] at h
     exact m.arr j _ _ _ _ _ h
 · obtain ⟨c, q1, q2, _⟩ := back i b h1
   obtain ⟨c', q3, q4, _⟩ := back j b' h2
   exact m.dis i j _ _ hij q1 q3 (q2.1 l1) (q4.1 l2)
 · obtain ⟨c, q1, _, q3⟩ := back j _ h
   rw [q3 _ _ _ _ rfl] at q1
   exact m.fr j _ _ _ _ q1
 · obtain ⟨c, q1, _, q3⟩ := back i _ h1
   obtain ⟨c', q4, _, q6⟩ := back j _ h2
   rw [q3 _ _ _ _ rfl] at q1
   rw [q6 _ _ _ _ rfl] at q4
   exact m.fd i j _ _ _ _ _ _ _ _ hij q1 q4
 · obtain ⟨j, blk, h1, h2⟩ := hb
   obtain ⟨c, q1, q2, q3⟩ := back j blk h1
   rcases h2 with ⟨h2, h3⟩ | ⟨β, U, e2, ys, h2, h3⟩
   · exact .inl ⟨j, c, q1, .inl ⟨q2.1 h2, h3⟩⟩
   · exact .inl ⟨j, c, q1, .inr ⟨β, U, e2, ys, q3 _ _ _ _ h2, h3⟩⟩
 · by_cases q : k = j
   · subst q; rw [Bv]; simp
   · rw [B6 q]; exact hn
 · by_cases q : k = j
   · subst q; rw [hk] at hc; cases hc
   · exact ⟨cs, by rw [Bs q]; exact hc⟩
end
def Recode {α β : Type} (e : Enc α) (xs : List α) (e' : Enc β) (xs' : List β) : Prop :=
 e'.size = e.size ∧ xs'.length = xs.length ∧ ∀ (w : World) (gb : Nat) (bss : List (List Nat)), Elems e w gb 0 xs bss → ∃ bss', Elems e' w gb 0 xs' bss' ∧ ∀ b ∈ bss'.flatten, b ∈ bss.flatten
theorem Dl {N : Nat} {K : List Nat} {s : St} {α β : Type} {T : TypeId} {e : Enc α} {e' : Enc β} {xs : List α} {xs' : List β} {dp : Bool} (k : Nat) (hk : lkl s.l k = some (.arr T e xs dp)) (hr : Recode e xs e' xs') :
   Gho N K s ⟨s.t, (k, some (.arr T e' xs' false)) :: s.l⟩ := fun g a w r => by
 obtain ⟨m1, st1, ok1⟩ := recode_mem r.mem hk hr.1 hr.2.1 fun bss h1 h2 => by
   obtain ⟨bss', q1, q2⟩ := hr.2.2 w (g.ρ k) bss h1
   exact ⟨bss', q1, fun b hb => h2 b (q2 b hb)⟩
 exact ⟨g, r.next0 (g' := g) (w' := w) (fun _ _ => rfl) (fun _ h => h) (Nat.le_refl _) (fun j _ => ok1 j) m1, st1 K⟩
def Closes {α β γ : Type} (e' : Enc γ) (ys : List γ) (V : Value) (ei : Enc β) (zs : List β) (e : Enc α) (xs : List α) : Prop :=
 e.size = e'.size ∧ xs.length = ys.length ∧ ∀ (w : World) (gb : Nat) (bss : List (List Nat)) (a : Option Addr) (n cap : Nat) (bz : List Nat), Elems e' w gb 0 ys bss → V = .slice a n cap → SliceRep ei w a n cap zs bz →
   ∃ bss', Elems e w gb 0 xs bss' ∧ ∀ b ∈ bss'.flatten, b ∈ bss.flatten ∨ b ∈ bz
theorem II {N : Nat} {K : List Nat} {s : St} {α β γ : Type} {T RE : TypeId} {e : Enc α} {e' : Enc γ} {ei : Enc β} {xs : List α} {ys : List γ} {zs : List β} {V : Value} {d1 d2 : Bool} (R k t : Nat) (hRk : Nat.beq k R = false)
   (hk : lkl s.l k = some (.arr T ei zs d1)) (hR : lkl s.l R = some (.arr RE e' ys d2)) (ht : lk s.t t = some (.one (.hd k V))) (hc : Closes e' ys V ei zs e xs) :
   Gho N K s ⟨s.t, (R, some (.arr RE e xs false)) :: (k, none) :: s.l⟩ := fun g a w r => by
 obtain ⟨m1, st1, c1, ok1⟩ := HX r.mem hk
 have hv : g.hd k = V := (r.tmp t _ ht : CellR g s.l w _ (.hd k V)) _ _ _ _ _ hk
 have r1 := r.next0 (g' := g.shut k) (l' := (k, none) :: s.l) (w' := w) (fun _ _ => rfl) (fun _ h => .inl h) (Nat.le_refl _) (fun j _ => ok1 j) m1
 have hR' : lkl ((k, none) :: s.l) R = some (.arr RE e' ys d2) := by
   rw [Bs (fun q => by subst q; simp at hRk)]; exact hR
 obtain ⟨ad, n, cap, bz, q1, q2, q3⟩ := c1
 obtain ⟨m2, st2, ok2⟩ := recode_mem m1 hR' hc.1 hc.2.1 fun bss h1 h2 => by
   obtain ⟨bss', p1, p2⟩ := hc.2.2 w _ bss ad n cap bz h1 (hv.symm.trans q1) q2
   exact ⟨bss', p1, fun b hb => (p2 b hb).elim (h2 b) (q3 b)⟩
 exact ⟨g.shut k, r1.next0 (g' := g.shut k) (w' := w) (fun _ _ => rfl) (fun _ h => h) (Nat.le_refl _) (fun j _ => ok2 j) m2, Step.trans r.mem m1 (st1 K) (st2 K)⟩

def DQ (rs : List Rulet) (i : Nat) (x : Rulet) (V : Value) : List (Rulet × Option Value × Option Value) := (BS rs).set i (x, some V, none)
def DB (rs : List Rulet) (i : Nat) (x : Rulet) (V : Value) : List (Rulet × Option Value × Option Value) := (BS rs).set i (x, none, some V)
theorem Ch (rs : List Rulet) (i : Nat) (x : Rulet) (V : Value) : (DQ rs i x V).length = rs.length := by simp [DQ, BS]
theorem C4 (rs : List Rulet) (i : Nat) (x : Rulet) (V : Value) : (DB rs i x V).length = rs.length := by simp [DB, BS]
theorem H6 {rs : List Rulet} {i : Nat} {x : Rulet} {V : Value} (h : i < (DQ rs i x V).length) : H4 (DQ rs i x V)[i] = [.c (.int .i64 x.kind), .c (.string x.head.name)] ++ ([.en exactE V] ++ [.sl DI x.body]) := by
 simp [DQ, H4, holeC]
theorem openBody_C {rs : List Rulet} {i : Nat} {x : Rulet} {V : Value} (h : i < (DB rs i x V).length) : H4 (DB rs i x V)[i] = [.c (.int .i64 x.kind), .c (.string x.head.name), .sl Bx x.head.args, .en exactE V] := by
 simp [DB, H4, holeC]
theorem Ii {rs : List Rulet} {i : Nat} {x : Rulet} {V : Value} (h : i < (DQ rs i x V).length) : Jj (H4 (DQ rs i x V)[i]) 2 = some (.en exactE V) := by rw [H6]; rfl
theorem Fn {rs : List Rulet} {i : Nat} {x : Rulet} {V : Value} (h : i < (DB rs i x V).length) : Jj (H4 (DB rs i x V)[i]) 3 = some (.en exactE V) := by rw [openBody_C]; rfl
theorem Ih {rs : List Rulet} {i : Nat} {x x' : Rulet} {V : Value} : (DQ rs i x V).set i (x', none, none) = BS (rs.set i x') := by
 simp [DQ, BS, List.map_set]
def withArgs (x : Rulet) (l : List Termt) : Rulet := { x with head := { x.head with args := l } }
def withBody (x : Rulet) (l : List Litt) : Rulet := { x with body := l }
theorem recode_of {α β : Type} {e : Enc α} {e' : Enc β} {xs : List α} {xs' : List β} (hsz : e'.size = e.size) (hl : xs'.length = xs.length) (h : ∀ (w : World) (j : Nat) (x : α) (y : β) (b : List Nat) (cs : List Value), xs[j]? = some x → xs'[j]? = some y → e.rep w cs x b → ∃ b', e'.rep w cs y b' ∧ ∀ c ∈ b', c ∈ b) : Recode e xs e' xs' :=
 ⟨hsz, hl, fun w gb bss hE => by
   obtain ⟨bss', q1, q2⟩ := Elems.conv (e := e) (e' := e') (ys := xs') (R := fun j b' => ∃ b, bss[j]? = some b ∧ ∀ c ∈ b', c ∈ b) hsz hE hl fun j x y b hx hy hb cs hr => by
     obtain ⟨b', p1, p2⟩ := h w j x y b cs hx hy hr
     exact ⟨b', p1, b, hb, p2⟩
   refine ⟨bss', q1, fun c hc => ?_⟩
   obtain ⟨b', hb', hcb⟩ := List.mem_flatten.1 hc
   obtain ⟨j, hj, rfl⟩ := List.getElem_of_mem hb'
   obtain ⟨b, p1, p2⟩ := q2 j _ (List.getElem?_eq_getElem hj)
   exact List.mem_flatten.2 ⟨b, List.mem_of_getElem? p1, p2 c hcb⟩⟩
theorem ruleH_rule {w : World} {cs : List Value} {x : Rulet} {b : List Nat} (h : ruleH.rep w cs (x, none, none) b) : ruleE.rep w cs x b := CellsOf.iff.2 (show FR w cs (ruleC x) b from h)
theorem Fz {rs : List Rulet} : Recode ruleQ rs ruleE rs := recode_of rfl rfl fun w j x y b cs hx hy hr => by
 rw [hx] at hy; cases hy
 obtain ⟨b', h1, h2⟩ := IY hr
 exact ⟨b', ruleH_rule h1, h2⟩
theorem recode_H {rs : List Rulet} {ys : List (Rulet × Option Value × Option Value)} (h : ys = BS rs) : Recode ruleH ys ruleE rs := by
 subst h
 refine recode_of rfl (by simp [BS]) fun w j x y b cs hx hy hr => ⟨b, ?_, fun _ h => h⟩
 simp only [BS, List.getElem?_map, hy, Option.map_some, Option.some.injEq] at hx
 subst hx
 exact ruleH_rule hr
theorem exact_cell {w : World} {v V : Value} {b : List Nat} (h : CFR w v (.en exactE V) b) : v = V ∧ b = [] := by
 obtain ⟨_, h1, h2⟩ := h
 exact ⟨by simpa using h1, h2⟩
theorem GX {rs : List Rulet} {i : Nat} {x : Rulet} {V : Value} {zs : List Litt} : Closes ruleH (DB rs i x V) V DI zs ruleE (rs.set i (withBody x zs)) :=
 ⟨rfl, by simp [DB, BS], fun w gb bss a n cap bz hE hV hz => by
   obtain ⟨bss', q1, q2⟩ := Elems.conv (e := ruleH) (e' := ruleE) (ys := rs.set i (withBody x zs)) (R := fun j b' => ∀ c ∈ b', c ∈ bss.flatten ∨ c ∈ bz) rfl hE (by simp [DB, BS]) fun j y z b hy hzj hb cs hr => by
     have hin : ∀ c ∈ b, c ∈ bss.flatten := fun c hc => List.mem_flatten.2 ⟨b, List.mem_of_getElem? hb, hc⟩
     unfold DB at hy
     rw [List.getElem?_set] at hy hzj
     split at hy
     · rename_i e
       subst e
       rw [if_pos rfl] at hzj
       split at hy
       · rename_i hi
         rw [if_pos (by simpa [BS] using hi)] at hzj
         cases hy; cases hzj
         obtain ⟨v2, v3, b2, b3, rfl, h0, h1, h2, h3, hbb⟩ := FR4.1 (show FR w cs [_, _, _, _] b from hr)
         obtain ⟨rfl, rfl⟩ := exact_cell h3
         rw [List.append_nil] at hbb
         refine ⟨b2 ++ bz, CellsOf.iff.2 (FR4.2 ⟨v2, v3, b2, bz, rfl, h0, h1, h2, ?_, rfl⟩), fun c hc => ?_⟩
         · exact ⟨a, n, cap, hV, hz⟩
         · rcases List.mem_append.1 hc with hc | hc
           · exact .inl (hin c (hbb ▸ hc))
           · exact .inr hc
       · cases hy
     · rename_i e
       rw [if_neg e] at hzj
       simp only [BS, List.getElem?_map, hzj, Option.map_some, Option.some.injEq] at hy
       subst hy
       exact ⟨b, ruleH_rule hr, fun c hc => .inl (hin c hc)⟩
   refine ⟨bss', q1, fun c hc => ?_⟩
   obtain ⟨b', hb', hcb⟩ := List.mem_flatten.1 hc
   obtain ⟨j, hj, rfl⟩ := List.getElem_of_mem hb'
   exact q2 j _ (List.getElem?_eq_getElem hj) c hcb⟩
theorem Gz [Old] {b : List Int} {c : Cur} {k : Nat} (g0 : Gh) (w0 : World) (m0 : MemR g0 [(k, some (DD b c))] w0) : ∀ x ∈ Old.bl, g0.I x := by
 obtain ⟨vs, t, _, h2, _⟩ := m0.box k _ (Bb ..)
 match vs.toList, h2 with
 | v :: _, ⟨h3, _⟩ => exact h3.2.2
end Go.Proofs.YtkemjhlbokldhaaGreat

namespace Go.Proofs.YtkemjhlbokldhaaGreat
open Go.RowKit
set_option linter.unusedVariables false
section
variable {P : Program} {N : Nat} {K : List Nat} {l0 : Locs} {Kn : St → Prop} {Q : Exit → St → Prop} {s : St} {c : Code}
theorem AV_keep (ks ls : List Nat) (h : LeS K (rn []) s ⟨Ip s.t ks, Iq s.l ls⟩) (hA : AV P N K l0 c Kn Q ⟨Ip s.t ks, Iq s.l ls⟩) : AV P N K l0 c Kn Q s := AV_le h hA
theorem AW_old {b : List Int} {cu : Cur} (k : Nat) (hk : lkl s.l k = some (curB0 b cu)) (h : ∀ [Old], AW P N K c Kn Q ⟨s.t, (k, some (DD b cu)) :: s.l⟩) : AW P N K c Kn Q s := fun g a w r => by
 obtain ⟨vs, t, h1, h2, _⟩ := r.mem.box k _ hk
 obtain ⟨v, rest, hvs⟩ : ∃ v rest, vs.toList = v :: rest := by
   cases hv : vs.toList with
   | nil => rw [hv] at h2; exact h2.elim
   | cons v rest => exact ⟨v, rest, rfl⟩
 rw [hvs] at h2
 obtain ⟨ad, n, cap, bs, e1, e2, e3⟩ := h2.1
 let inst : Old := ⟨v, bs⟩
 obtain ⟨m1, st1, ok1⟩ := box_re2 r.mem hk (cs' := [.rx (Fh (intE .u8)) b [v] bs 0, .c (.int .i64 cu.i), .c (.int .i64 cu.h)]) (fun vs' t' hh hv' => by
   rw [h1] at hh
   cases hh
   rw [hvs] at hv' ⊢
   exact ⟨⟨⟨rfl, by rw [e1]; rfl⟩, by rw [e1]; exact sliceE_iff.2 e2, e3⟩, hv'.2⟩)
 have r1 := r.next0 (g' := g) (w' := w) (fun _ _ => rfl) (fun _ h => h) (Nat.le_refl _) (fun j _ => ok1 j) m1
 exact Go.wp_mono (@h inst g a w r1) fun e a1 w1 q => q.trans r.mem m1 (st1 K)
end
def noTerm0 : Termt := ⟨⟨#[]⟩, ⟨0, ⟨#[]⟩⟩⟩
def bigT : Termt := ⟨⟨#[]⟩, ⟨281474976710655, ⟨#[]⟩⟩⟩
def bigA : Atomt := ⟨⟨#[97, 98, 99, 100, 101, 102, 103, 104, 105, 106, 107, 108]⟩, List.replicate 6 bigT⟩
def bigL : Litt := ⟨1, bigA, 0, noTerm0, noTerm0⟩
def bigR : Rulet := ⟨1, bigA, List.replicate 8 bigL⟩
def headWords : List ByteArray := [⟨#[110, 111, 116]⟩, ⟨#[97]⟩, ⟨#[]⟩, ⟨#[102, 111, 114, 119, 97, 114, 100]⟩]
theorem headWords_len : headWords.length = 4 := rfl
end Go.Proofs.YtkemjhlbokldhaaGreat

namespace Go.Proofs.YtkemjhlbokldhaaGreat
open Go.RowKit
set_option linter.unusedVariables false
set_option linter.unusedSimpArgs false
set_option maxRecDepth 100000

set_option maxHeartbeats 4000000 in
theorem program_x [Old] (b : List Int) (c : Cur) (hb : b.length ≤ 1048576) : AX Tryz.prog 25 [.one (.ptr 200 0)] [(200, some (DD b c))] (ι := (List Declt × List Rulet) × Cur) (fun i => Bm ⟨i.1.1, i.1.2⟩ = true) (fun i => .agg [.own 301, .own 302]) (fun i => [(200, some (DD b i.2)), (301, some (.arr 51 CN i.1.1 true)), (302, some (.arr 42 ruleQ i.1.2 true))]) := by
 refine AX_bodyC (n := 2) (k := 9) (cs := fun (i : (List Declt × List Rulet) × Cur) => [.own 301, .own 302]) (T := fun (_ : (List Declt × List Rulet) × Cur) => [(2, .one (.ptr 9 0))]) (Lf := fun (i : (List Declt × List Rulet) × Cur) => ((9, some (.box [.own 301, .own 302])) :: [(200, some (DD b i.2)), (301, some (.arr 51 CN i.1.1 true)), (302, some (.arr 42 ruleQ i.1.2 true))])) (L' := fun (i : (List Declt × List Rulet) × Cur) => [(200, some (DD b i.2)), (301, some (.arr 51 CN i.1.1 true)), (302, some (.arr 42 ruleQ i.1.2 true))]) Tryz.func25 J J Tryz.ntmps25 J Tryz.results25 (fun _ => rfl) (fun _ => rfl) (by kernel_rfl) (fun _ => rfl) (fun _ => rfl) (fun (_ : (List Declt × List Rulet) × Cur) => ⟨O, (by repeat (first | exact trivial | refine ⟨⟨_, J, BLe.rf⟩, ?_⟩)), (Af J), J⟩) ?_
 refine A8 (A9 (AO (Aw (.agg #[.slice none 0 0, .slice none 0 0]) 100 J (by kernel_rfl) J J J J) (AQ (A8 (A9 (AO (A0 J J) ?_))))))
 have d13 := Cj b c (n := 8) (by decide)
 refine AO (Aj J J J (C5 b c hb 8) J J J J) ?_
 refine AO (AS J J J (classic_c (AY b c 8).1 (by omega) (by omega)) J J) ?_
 refine AO (A1 J J) (AQ (A8 (A8 (A9 (AO (A0 J J) ?_)))))
 have d16 := Cj b (AY b c 8).2 (n := 3) (by decide)
 refine AO (Aj J J J (C5 b (AY b c 8).2 hb 3) J J J J) (AO (A1 J J) (AQ (AZ ?_)))
 refine B8 (ι := {q : Int × ByteArray × Cur // 0 ≤ (q.1) ∧ ((q.2.1).size : Int) + 20 * (q.1) ≤ 800}) (fun p => [(3, .one (.c (.string ((p.1.2.1))))), (4, .one (.c (.int .i64 ((p.1.1)))))]) (fun p => [(200, some (DD b (p.1.2.2)))]) [0, 2] [100] (fun p => (p.1.1).toNat) ⟨⟨(AY b (AY b c 8).2 3).1, (classics[(AY b c 8).1.toNat]'(by rw [G2]; omega)), (AY b (AY b c 8).2 3).2⟩, by have := classics_le (k := (AY b c 8).1.toNat) (by rw [G2]; omega); dsimp only; omega⟩ (rn []) ?_ ?_
 exact Ag (by repeat first | exact trivial | refine Ah J (by first | exact VLe.rf | exact A7 (by dsimp only; omega)) ?_) (by repeat first | exact trivial | refine Ai J (by first | exact BLe.rf | exact BLe.box AllC.rf | exact BLe.arr (by exact J)) ?_) J J
 rintro ⟨⟨n, s, cc⟩, hinv⟩
 dsimp only
 obtain ⟨hn, hsz⟩ := hinv
 have hn : 0 ≤ n := hn
 have hsz : (s.size : Int) + 20 * n ≤ 800 := hsz
 refine A8 (A8 (A9 (AO (A0 J J) ?_)))
 refine BG (CC J J J) (fun b18 h18 => ?_)
 refine AQ ?_
 cases b18
 · try simp only [tdy] at h18
   refine Bc J ?_
   refine Br (B2 ?_)
   refine A8 (A9 (AO (A0 J J) ?_))
   refine AO (HP J J J (AC.renum (res := .tup [.agg [.own 104, .own 105], .one (.c (.int .i64 ((Dv s).2.1))), .one (.c (.int .i64 ((Dv s).2.2)))]) (L := [(104, some (.arr 51 CN (Dv s).1.decls true)), (105, some (.arr 42 ruleQ (Dv s).1.rules true))]) (r := rn [(104, 0), (105, 1)]) (parseT_c0 s (by omega)) ⟨⟨_, J, BLe.rf⟩, ⟨_, J, BLe.rf⟩, O⟩ J) J AllV.rf J J J J J) ?_
   refine AO (A0 J J) (AO (B1 J J J) (AO (B1 J J J) (AO (B1 J J J) (AO (Aw (.agg #[.slice none 0 0, .slice none 0 0]) 106 J (by kernel_rfl) J J J J) (AO (Ap 2 J J J J (by kernel_rfl) J J J) (AO (A1 J J) (AO (A1 J J) (AQ (A8 (A9 (AO (Au 2 J J J (by kernel_rfl) J J) (AO (Ap 2 J J J J (by kernel_rfl) J J J) (AQ (AU ?_))))))))))))))
   refine ⟨⟨⟨_, _⟩, _⟩, ?_, rn [(9, 100), (301, 104), (302, 105)], by exact ⟨⟨⟨_, J, VLe.rf⟩, O⟩, ⟨⟨_, J, by first | exact BLe.rf | exact BLe.box (by repeat (first | exact trivial | refine ⟨by first | exact CLe.rf | exact CLe.nil, ?_⟩))⟩, ⟨_, J, BLe.rf⟩, ⟨_, J, BLe.rf⟩, ⟨_, J, BLe.rf⟩, O⟩, Af J, J⟩⟩
   show Bm (Dv s).1 = true
   rw [← parse_agr]; exact parse_good s
 try simp only [tdy] at h18
 refine A5 J (AP (A8 (AZ (A8 (A9 (AO (A0 J J) (AO (A0 J J) ?_)))))))
 refine AN_x (L := [(200, some (DD b cc))]) J J J (turn_x b cc hb s (by omega)) J J (fun _ => rfl) (fun _ => rfl) ⟨J, O⟩ (fun _ => rfl) ?_
 rintro ⟨y23, c23⟩ g23
 try dsimp only at g23
 try dsimp only
 refine AO (A1 J J) (AQ (A8 (A9 (AO (A0 J J) ?_))))
 refine AO (HP J J J (AC.renum (res := .tup [.agg [.own 101, .own 102], .one (.c (.int .i64 ((Dv y23).2.1))), .one (.c (.int .i64 ((Dv y23).2.2)))]) (L := [(101, some (.arr 51 CN (Dv y23).1.decls true)), (102, some (.arr 42 ruleQ (Dv y23).1.rules true))]) (r := rn [(101, 0), (102, 1)]) (parseT_c0 y23 (by omega)) ⟨⟨_, J, BLe.rf⟩, ⟨_, J, BLe.rf⟩, O⟩ J) J AllV.rf J J J J J) ?_
 refine AO (A0 J J) (AO (B1 J J J) (AO (B1 J J J) (AO (B1 J J J) (AO (Aw (.agg #[.slice none 0 0, .slice none 0 0]) 103 J (by kernel_rfl) J J J J) (AO (Ap 2 J J J J (by kernel_rfl) J J J) (AO (A1 J J) (AO (A1 J J) (AQ (A8 (A9 (AO (A0 J J) ?_)))))))))))
 refine BG (AR J J J) (fun b31 h31 => ?_)
 refine AQ ?_
 cases b31
 · try simp only [tdy] at h31
   refine Ab J (A9 (AO (A0 J J) ?_))
   refine AO (HO J J J (IntWalk.i64_in _ (by omega))) ?_
   refine AO (A1 J J) (AQ ?_)
   refine ⟨⟨⟨_, _, _⟩, ?_⟩, rn [], by exact Ag (by repeat first | exact trivial | refine Ah J (by first | exact VLe.rf | exact A7 (by dsimp only; omega)) ?_) (by repeat first | exact trivial | refine Ai J (by first | exact BLe.rf | exact BLe.box AllC.rf | exact BLe.arr (by exact J)) ?_) J J, by dsimp only; omega⟩
   dsimp only at g23 ⊢; omega
 try simp only [tdy] at h31
 refine A5 J (A9 (AO (A0 J J) (AO (A1 J J) (AQ (A9 (AO (A0 J J) ?_))))))
 refine AO (HO J J J (IntWalk.i64_in _ (by omega))) ?_
 refine AO (A1 J J) (AQ ?_)
 refine ⟨⟨⟨_, _, _⟩, ?_⟩, rn [], by exact Ag (by repeat first | exact trivial | refine Ah J (by first | exact VLe.rf | exact A7 (by dsimp only; omega)) ?_) (by repeat first | exact trivial | refine Ai J (by first | exact BLe.rf | exact BLe.box AllC.rf | exact BLe.arr (by exact J)) ?_) J J, by dsimp only; omega⟩
 dsimp only at g23 ⊢; omega
end Go.Proofs.YtkemjhlbokldhaaGreat

namespace Go.Proofs.YtkemjhlbokldhaaGreat
open Go.RowKit
set_option linter.unusedVariables false
set_option linter.unusedSimpArgs false

abbrev Key : Type := Int × Int × ByteArray
def tkey (t : Tokent) : Key := (t.kind, t.n, t.s)
def Has (s : ByteArray) (i : Nat) (w : ByteArray) : Prop := i + w.size ≤ s.size ∧ (s.data.toList.drop i).take w.size = w.data.toList
theorem Hn (w : ByteArray) : w.data.toList.length = w.size := by simp
theorem Has.ext {s w : ByteArray} {i : Nat} (h : Has s i w) : s.extract i (i + w.size) = w := by
 refine ByteArray.ext (Array.ext' ?_)
 rw [IK h.1, h.2]
theorem Has.app {s a b : ByteArray} {i : Nat} (h : Has s i (a ++ b)) : Has s i a ∧ Has s (i + a.size) b := by
 obtain ⟨h1, h2⟩ := h
 rw [Bf] at h1 h2
 rw [ByteArray.data_append, Array.toList_append] at h2
 refine ⟨⟨by omega, ?_⟩, ⟨by omega, ?_⟩⟩
 · have := congrArg (List.take a.size) h2
   rw [List.take_take, Nat.min_eq_left (by omega), List.take_append_of_le_length (by rw [Hn]; exact Nat.le_refl _), List.take_of_length_le (l := a.data.toList) (by rw [Hn]; exact Nat.le_refl _)] at this
   exact this
 · have := congrArg (List.drop a.size) h2
   rw [List.drop_take, List.drop_drop, List.drop_append_of_le_length (by rw [Hn]; exact Nat.le_refl _), show a.data.toList.drop a.size = [] from List.drop_of_length_le (by rw [Hn]; exact Nat.le_refl _), List.nil_append, Nat.add_sub_cancel_left] at this
   exact this
theorem Has.get {s w : ByteArray} {i : Nat} (h : Has s i w) {k : Nat} (hk : k < w.size) : s[i + k]'(by have := h.1; omega) = w[k] := by
 have h1 := h.1
 have e1 := byte_at (s := s) (j := i + k) (by omega)
 have e2 := byte_at (s := w) (j := k) hk
 rw [← h.2, List.getElem?_take, if_pos hk, List.getElem?_drop, e1] at e2
 exact Option.some.inj e2
theorem Has.all (s : ByteArray) : Has s 0 s := by
 refine ⟨by omega, ?_⟩
 rw [List.drop_zero, List.take_of_length_le (by rw [Hn]; exact Nat.le_refl _)]
def Stop (s : ByteArray) (j : Nat) : Prop := ∀ h : j < s.size, B0 s[j].toNat = false
def LexTo (s : ByteArray) (i : Nat) (ks : List Key) (j : Nat) : Prop := ∃ toks : List Tokent, toks.map tkey = ks ∧ ∀ out, Fb out (lexR s i) = Fb (out ++ toks) (lexR s j)
theorem LexTo.refl {s : ByteArray} {i : Nat} : LexTo s i [] i := ⟨[], rfl, fun out => by rw [List.append_nil]⟩
theorem LexTo.trans {s : ByteArray} {i j k : Nat} {a b : List Key} (h : LexTo s i a j) (h2 : LexTo s j b k) : LexTo s i (a ++ b) k := by
 obtain ⟨t, e1, f1⟩ := h
 obtain ⟨u, e2, f2⟩ := h2
 exact ⟨t ++ u, by rw [List.map_append, e1, e2], fun out => by rw [f1, f2, List.append_assoc]⟩
theorem LexTo.tok {s : ByteArray} {i j : Nat} {t : Tokent} (h : lexR s i = Fl t (lexR s j)) : LexTo s i [tkey t] j := ⟨[t], rfl, fun out => by rw [h, comb_cons]⟩
theorem LexTo.skip {s : ByteArray} {i j : Nat} (h : B3 s i = B3 s j) : LexTo s i [] j := ⟨[], rfl, fun out => by rw [List.append_nil, lex_skip h]⟩
def RdS (w : ByteArray) (ks : List Key) : Prop := ∀ s i, Has s i w → Stop s (i + w.size) → LexTo s i ks (i + w.size)
def Rd (w : ByteArray) (ks : List Key) : Prop := ∀ s i, Has s i w → LexTo s i ks (i + w.size)
def Bar (w : ByteArray) : Prop := ∃ h : 0 < w.size, B0 w[0].toNat = false
theorem Rd.weak {w : ByteArray} {ks : List Key} (h : Rd w ks) : RdS w ks := fun s i hs _ => h s i hs
theorem Bar.stop {s w : ByteArray} {i : Nat} (h : Bar w) (hs : Has s i w) : Stop s i := fun hi => by
 obtain ⟨h0, h1⟩ := h
 have e := hs.get h0
 simp only [Nat.add_zero] at e
 rw [e]; exact h1
theorem Bar.app {a b : ByteArray} (h : Bar a) : Bar (a ++ b) := by
 obtain ⟨h0, h1⟩ := h
 refine ⟨by rw [Bf]; omega, ?_⟩
 have e : (a ++ b)[0]'(by rw [Bf]; omega) = a[0] := by rw [ByteArray.getElem_append_left h0]
 rw [e]; exact h1
theorem Rd.nil : Rd ⟨#[]⟩ [] := fun s i h => LexTo.refl
theorem Rd.app {a b : ByteArray} {ka kb : List Key} (h : Rd a ka) (h2 : Rd b kb) : Rd (a ++ b) (ka ++ kb) := fun s i hs => by
 obtain ⟨h3, h4⟩ := hs.app
 rw [Bf, ← Nat.add_assoc]
 exact (h s i h3).trans (h2 s _ h4)
theorem Rd.appS {a b : ByteArray} {ka kb : List Key} (h : Rd a ka) (h2 : RdS b kb) : RdS (a ++ b) (ka ++ kb) := fun s i hs st => by
 obtain ⟨h3, h4⟩ := hs.app
 rw [Bf, ← Nat.add_assoc] at st ⊢
 exact (h s i h3).trans (h2 s _ h4 st)
theorem RdS.app {a b : ByteArray} {ka kb : List Key} (h : RdS a ka) (hb : Bar b) (h2 : Rd b kb) : Rd (a ++ b) (ka ++ kb) := fun s i hs => by
 obtain ⟨h3, h4⟩ := hs.app
 rw [Bf, ← Nat.add_assoc]
 exact (h s i h3 (hb.stop h4)).trans (h2 s _ h4)
theorem RdS.appS {a b : ByteArray} {ka kb : List Key} (h : RdS a ka) (hb : Bar b) (h2 : RdS b kb) : RdS (a ++ b) (ka ++ kb) := fun s i hs st => by
 obtain ⟨h3, h4⟩ := hs.app
 rw [Bf, ← Nat.add_assoc] at st ⊢
 exact (h s i h3 (hb.stop h4)).trans (h2 s _ h4 st)
theorem alnum_lex {c : Int} (h : B0 c = true) : CH c = false ∧ ¬ c = 35 := by
 simp only [B0, Ct, upB, Cf, Bool.or_eq_true, decide_eq_true_eq] at h
 constructor
 · simp only [CH, Bool.or_eq_false_iff, decide_eq_false_iff_not]; omega
 · omega
theorem H0 {s w : ByteArray} {i : Nat} (h : Has s i w) (ha : ∀ k (hk : k < w.size), B0 w[k].toNat = true) (hs : Stop s (i + w.size)) : Bp s i = i + w.size := by
 have h1 := h.1
 have step : ∀ n, n ≤ w.size → Bp s (i + (w.size - n)) = i + w.size := by
   intro n
   induction n with
   | zero =>
     intro _
     rw [Nat.sub_zero]
     by_cases q : i + w.size < s.size
     · exact GE q (hs q)
     · exact GF q
   | succ n ih =>
     intro hn
     have hk : w.size - (n + 1) < w.size := by omega
     have e := h.get hk
     rw [EO (i := i + (w.size - (n + 1))) (by omega) (by rw [e]; exact ha _ hk)]
     have := ih (by omega)
     rw [show i + (w.size - (n + 1)) + 1 = i + (w.size - n) by omega]
     exact this
 have := step w.size (Nat.le_refl _)
 rw [Nat.sub_self, Nat.add_zero] at this
 exact this
theorem allB_at {p : Int → Bool} {s : ByteArray} (h : allB p s = true) (k : Nat) (hk : k < s.size) : p s[k].toNat = true := by
 unfold allB at h
 rw [List.all_eq_true] at h
 have := h _ (List.getElem_mem (l := s.data.toList) (n := k) (by simpa using hk))
 rw [CB s k hk] at this
 exact this
theorem wordC_alnum {c : Int} (h : G7 c = true) : B0 c = true := by
 unfold G7 at h; unfold B0
 simp only [Bool.or_eq_true] at *
 rcases h with h | h
 · exact .inl (.inl h)
 · exact .inr h
section
variable {s w : ByteArray} {i : Nat}
theorem read_any (h : Has s i w) (h0 : 0 < w.size) (ha : ∀ k (hk : k < w.size), B0 w[k].toNat = true) (hs : Stop s (i + w.size)) {t : Tokent} (ht : ∀ hi : i < s.size, BT s i (s[i].toNat : Int) = (t, ((i + w.size : Nat) : Int), 0)) : LexTo s i [tkey t] (i + w.size) := by
 have h1 := h.1
 have hi : i < s.size := by omega
 have e := h.get h0
 simp only [Nat.add_zero] at e
 have hal : B0 s[i].toNat = true := by rw [e]; exact ha 0 h0
 have hb := alnum_lex hal
 have hsk := E0 hi hb.1 hb.2
 exact LexTo.tok (Hs hi hsk hal (H0 h ha hs).symm (ht hi))
theorem head_at {p : Int → Bool} (h : GV p w = true) (h0 : 0 < w.size) : p w[0].toNat = true := by rw [ED h0] at h; exact h
end
theorem Hp {w : ByteArray} (h : C7 w = true) : RdS w [(1, 0, w)] := fun s i hs st => by
 have hp := wordB_pos h
 have hq : allB G7 w = true ∧ GV Ct w = true := by
   simp only [C7, Bool.and_eq_true] at h; exact ⟨h.1.1, h.2⟩
 have ha : ∀ k (hk : k < w.size), B0 w[k].toNat = true := fun k hk => wordC_alnum (allB_at hq.1 k hk)
 have e := hs.get (k := 0) (by omega)
 simp only [Nat.add_zero] at e
 have hl := head_at hq.2 (by omega)
 have hd : Cf w[0].toNat = false := by
   unfold Ct at hl; unfold Cf
   simp only [decide_eq_true_eq, decide_eq_false_iff_not] at *; omega
 exact read_any (t := ⟨1, 0, w, i⟩) hs (by omega) ha st fun hi => by
   have := HZ (s := s) (c := (s[i].toNat : Int)) (H0 hs ha st).symm (by rw [e]; exact hd) (by rw [hs.ext]; exact h)
   rw [hs.ext] at this
   exact this
theorem read_var {w : ByteArray} (h : Eu w = true) : RdS w [(2, 0, w)] := fun s i hs st => by
 have hp := varB_pos h
 have hq : allB B0 w = true ∧ GV upB w = true := by
   simp only [Eu, Bool.and_eq_true] at h; exact ⟨h.1.1, h.2⟩
 have ha : ∀ k (hk : k < w.size), B0 w[k].toNat = true := fun k hk => allB_at hq.1 k hk
 have e := hs.get (k := 0) (by omega)
 simp only [Nat.add_zero] at e
 have hl := head_at hq.2 (by omega)
 have hd : Cf w[0].toNat = false ∧ Ct w[0].toNat = false := by
   unfold upB at hl; unfold Cf Ct
   simp only [decide_eq_true_eq, decide_eq_false_iff_not] at *; omega
 have hw : C7 w = false := by
   unfold C7
   rw [ED (by omega), hd.2]; simp
 exact read_any (t := ⟨2, 0, w, i⟩) hs (by omega) ha st fun hi => by
   have := res_var (s := s) (c := (s[i].toNat : Int)) (H0 hs ha st).symm (by rw [e]; exact hd.1) (by rw [hs.ext]; exact hw) (by rw [hs.ext]; exact h)
   rw [hs.ext] at this
   exact this
theorem num_is {n : Int} (h : Df n = true) : ∃ m : Nat, n = m ∧ m ≤ 281474976710655 ∧ BR n = bytes (Dx m) := by
 have h' := h
 unfold Df at h'
 rw [decide_eq_true_eq] at h'
 exact ⟨n.toNat, by omega, by omega, by unfold BR; rw [if_pos h]⟩
theorem read_num {n : Int} (h : Df n = true) : RdS (BR n) [(3, n, ⟨#[]⟩)] := fun s i hs st => by
 obtain ⟨m, rfl, hm, e⟩ := num_is h
 rw [e] at hs st ⊢
 generalize hw : bytes (Dx m) = w at *
 have hl : w.data.toList = Dx m := by rw [← hw]; simp [bytes]
 have hsz : w.size = (Dx m).length := by rw [← hl]; simp
 have hpos : 0 < w.size := by
   have := numTxt_ne m
   rw [hsz]; exact List.length_pos_iff.2 this
 have hdig : ∀ k (hk : k < w.size), Cf w[k].toNat = true := fun k hk => by
   have h1 := List.all_eq_true.1 (numTxt_dig m) (w.data.toList[k]'(by simpa using hk)) (by rw [← hl]; exact List.getElem_mem _)
   rw [CB w k hk] at h1
   simp only [Hx, Bool.and_eq_true, decide_eq_true_eq] at h1
   unfold Cf
   rw [decide_eq_true_eq]; omega
 have ha : ∀ k (hk : k < w.size), B0 w[k].toNat = true := fun k hk => by simp [B0, hdig k hk]
 have ht : Dd w = some m := by rw [← hw]; exact textNum_numTxt hm
 have e2 := hs.get hpos
 simp only [Nat.add_zero] at e2
 have key := read_any (t := ⟨3, (m : Int), ⟨#[]⟩, i⟩) hs hpos ha st fun hi => by
   have := res_num (s := s) (c := (s[i].toNat : Int)) (H0 hs ha st).symm (by rw [e2]; exact hdig 0 hpos) (by rw [hs.ext]; unfold Ds; rw [ht]; rfl)
   rw [hs.ext] at this
   rw [this]
   unfold D9
   rw [ht]
 exact key
theorem read_two {w : ByteArray} (h : EM w = true) (hb : ∃ h0 : 0 < w.size, CH w[0].toNat = false ∧ ¬ (w[0].toNat : Int) = 35 ∧ B0 w[0].toNat = false) : Rd w [(4, 0, w)] := fun s i hs => by
 obtain ⟨h0, b1, b2, b3⟩ := hb
 have h1 := hs.1
 have e := hs.get h0
 simp only [Nat.add_zero] at e
 have h2 : w.size = 2 := twos_size (by
   rw [twos_mem, List.any_eq_true] at h
   obtain ⟨p, hp, q⟩ := h
   rw [ba_iff.1 q]; exact hp)
 have hx := hs.ext
 rw [h2] at hx h1 ⊢
 have hi : i < s.size := by omega
 have hy := sym_pair (s := s) (i := i) (by omega) hx h
 have hk := E0 hi (by rw [e]; exact b1) (by rw [e]; exact b2)
 have := lex_sign hi hk (by rw [e]; exact b3) (by rw [hy, h2]; decide)
 rw [hy, h2] at this
 exact LexTo.tok this
theorem read_one {s w : ByteArray} {i : Nat} (hs : Has s i w) (hw : w.size = 1) (hm : hd0 w ∈ HW) (hn : ¬ (i + 1 < s.size ∧ EM (s.extract i (i + 2)) = true)) : LexTo s i [(4, 0, w)] (i + w.size) := by
 have h1 := hs.1
 have h0 : 0 < w.size := by omega
 have e := hs.get h0
 simp only [Nat.add_zero] at e
 have hi : i < s.size := by omega
 have he : hd0 w = (s[i].toNat : Int) := by rw [HG h0, e]
 have hy : C2 s i = w := by
   unfold C2
   rw [dif_pos hi, if_neg hn, if_pos (by rw [← he]; exact hm), one_ext hi hw he]
 have hb : CH (s[i].toNat : Int) = false ∧ ¬ (s[i].toNat : Int) = 35 ∧ B0 (s[i].toNat : Int) = false := by
   rw [← he]
   generalize hd0 w = c at hm ⊢
   simp only [HW, List.mem_cons, List.not_mem_nil, or_false] at hm
   rcases hm with h | h | h | h | h | h | h | h | h <;> subst h <;> decide
 have hk := E0 hi hb.1 hb.2.1
 have := lex_sign hi hk hb.2.2 (by rw [hy, hw]; decide)
 rw [hy] at this
 exact LexTo.tok this
theorem two_head {y : ByteArray} (h : EM y = true) : hd0 y = 58 ∨ hd0 y = 33 ∨ hd0 y = 60 := by
 simp only [EM, Bool.or_eq_true] at h
 rcases h with h | h | h
 · left; rw [ba_iff.1 h]; rfl
 · right; left; rw [ba_iff.1 h]; rfl
 · right; right; rw [ba_iff.1 h]; rfl
theorem ext_hd0 {s : ByteArray} {i : Nat} (h : i + 1 < s.size) : hd0 (s.extract i (i + 2)) = (s[i].toNat : Int) := by
 have hz : (s.extract i (i + 2)).size = 2 := by rw [ByteArray.size_extract]; omega
 rw [HG (by omega), EF (by omega) (by omega) (by omega)]
theorem EP {w : ByteArray} (hw : w.size = 1) (hm : hd0 w ∈ HW) (hn : ¬ hd0 w = 60) : Rd w [(4, 0, w)] := fun s i hs => by
 refine read_one hs hw hm ?_
 rintro ⟨h1, h2⟩
 have h0 : 0 < w.size := by omega
 have e := hs.get h0
 simp only [Nat.add_zero] at e
 have he : hd0 w = (s[i].toNat : Int) := by rw [HG h0, e]
 have h3 := two_head h2
 rw [ext_hd0 h1, ← he] at h3
 simp only [HW, List.mem_cons, List.not_mem_nil, or_false] at hm
 omega
theorem read_less : Rd ⟨#[60, 32]⟩ [(4, 0, ⟨#[60]⟩)] := fun s i hs => by
 have hs' : Has s i ((⟨#[60]⟩ : ByteArray) ++ (⟨#[32]⟩ : ByteArray)) := hs
 obtain ⟨ha, hb⟩ := hs'.app
 have e1 := hb.get (k := 0) (by decide)
 have hz : (⟨#[60]⟩ : ByteArray).size = 1 := rfl
 have hz2 : (⟨#[32]⟩ : ByteArray).size = 1 := rfl
 have hb1 := hb.1
 have h1 := read_one ha hz (by decide) (by
   rintro ⟨h1, h2⟩
   simp only [EM, Bool.or_eq_true] at h2
   have hsz : (s.extract i (i + 2)).size = 2 := by rw [ByteArray.size_extract]; omega
   have g : (s.extract i (i + 2))[1]'(by omega) = s[i + 1] := by rw [ByteArray.getElem_extract]
   have g2 : s[i + 1] = (32 : UInt8) := e1
   rcases h2 with h2 | h2 | h2
   · have q := ba_iff.1 h2
     simp only [q] at g; rw [g2] at g; exact absurd g (by show ¬ ((45 : UInt8) = 32); decide)
   · have q := ba_iff.1 h2
     simp only [q] at g; rw [g2] at g; exact absurd g (by show ¬ ((61 : UInt8) = 32); decide)
   · have q := ba_iff.1 h2
     simp only [q] at g; rw [g2] at g; exact absurd g (by show ¬ ((61 : UInt8) = 32); decide))
 have hbl : LexTo s (i + 1) [] (i + 2) := LexTo.skip (CJ (by omega) (by
   have e2 : s[i + 1]'(by omega) = (32 : UInt8) := e1
   rw [e2]; decide))
 exact h1.trans hbl
theorem read_blank {w : ByteArray} (hw : w.size = 1) (h : CH (hd0 w) = true) : Rd w [] := fun s i hs => by
 have h1 := hs.1
 have h0 : 0 < w.size := by omega
 have e := hs.get h0
 simp only [Nat.add_zero] at e
 have he : hd0 w = (s[i].toNat : Int) := by rw [HG h0, e]
 rw [hw]
 exact LexTo.skip (CJ (by omega) (by rw [← he]; exact h))
def BH (s : ByteArray) : Key := (4, 0, s)
theorem rd_open : Rd ⟨#[40]⟩ [BH ⟨#[40]⟩] := EP rfl (by decide) (by decide)
theorem rd_close : Rd ⟨#[41]⟩ [BH ⟨#[41]⟩] := EP rfl (by decide) (by decide)
theorem rd_dot : Rd ⟨#[46]⟩ [BH ⟨#[46]⟩] := EP rfl (by decide) (by decide)
theorem rd_slash : Rd ⟨#[47]⟩ [BH ⟨#[47]⟩] := EP rfl (by decide) (by decide)
theorem rd_plus : Rd ⟨#[43]⟩ [BH ⟨#[43]⟩] := EP rfl (by decide) (by decide)
theorem rd_minus : Rd ⟨#[45]⟩ [BH ⟨#[45]⟩] := EP rfl (by decide) (by decide)
theorem rd_eq : Rd ⟨#[61]⟩ [BH ⟨#[61]⟩] := EP rfl (by decide) (by decide)
theorem rd_space : Rd ⟨#[32]⟩ [] := read_blank rfl (by decide)
theorem rd_line : Rd ⟨#[10]⟩ [] := read_blank rfl (by decide)
theorem rd_comma : Rd comma [BH ⟨#[44]⟩] := (EP (w := ⟨#[44]⟩) rfl (by decide) (by decide)).app rd_space
theorem rd_if : Rd ⟨#[58, 45]⟩ [BH ⟨#[58, 45]⟩] := read_two rfl ⟨by decide, by decide, by decide, by decide⟩
theorem rd_ne : Rd ⟨#[33, 61]⟩ [BH ⟨#[33, 61]⟩] := read_two rfl ⟨by decide, by decide, by decide, by decide⟩
theorem rd_le : Rd ⟨#[60, 61]⟩ [BH ⟨#[60, 61]⟩] := read_two rfl ⟨by decide, by decide, by decide, by decide⟩
theorem bar_comma : Bar comma := ⟨by decide, by decide⟩
theorem bar_open : Bar ⟨#[40]⟩ := ⟨by decide, by decide⟩
theorem bar_close : Bar ⟨#[41]⟩ := ⟨by decide, by decide⟩
theorem bar_space : Bar ⟨#[32]⟩ := ⟨by decide, by decide⟩
theorem bar_slash : Bar ⟨#[47]⟩ := ⟨by decide, by decide⟩
def Ei (t : Termt) : Key := if (t.var == (⟨#[]⟩ : ByteArray)) = true then (if t.val.s.toList.isEmpty = true then (3, t.val.n, ⟨#[]⟩) else (1, 0, t.val.s)) else (2, 0, t.var)
theorem rd_term {t : Termt} (h : Cv t = true) : RdS (BF t) [Ei t] := by
 unfold Cv at h; unfold BF Ei
 by_cases hv : (t.var == (⟨#[]⟩ : ByteArray)) = true
 · rw [if_pos hv] at h ⊢
   rw [if_pos hv]
   simp only [Bool.and_eq_true] at h
   unfold CA
   rw [if_pos h.1]
   have hok := h.1
   unfold CV at hok
   by_cases he : t.val.s.toList.isEmpty = true
   · rw [if_pos he] at hok ⊢
     rw [if_pos he]
     exact read_num hok
   · rw [if_neg he] at hok ⊢
     rw [if_neg he]
     simp only [Bool.and_eq_true] at hok
     exact Hp hok.2
 · rw [if_neg hv] at h ⊢
   rw [if_neg hv]
   simp only [Bool.and_eq_true] at h
   exact read_var h.1
theorem joinB_two (x y : ByteArray) (r : List ByteArray) (sep : ByteArray) : D2 (x :: y :: r) sep = x ++ sep ++ D2 (y :: r) sep := by
 apply Gd
 simp only [D2, List.map_cons, ByteArray.data_append, Array.toList_append, Lib.join_cons, Lib.joinTail, List.flatten_cons, List.append_assoc]
def Ej : List (List Key) → List Key
 | [] => []
 | [x] => x
 | x :: y :: r => x ++ BH ⟨#[44]⟩ :: Ej (y :: r)
theorem rd_join {α : Type} {f : α → ByteArray} {g : α → List Key} : ∀ (xs : List α), (∀ x ∈ xs, RdS (f x) (g x)) → RdS (D2 (xs.map f) comma) (Ej (xs.map g))
 | [], _ => by rw [List.map_nil, IF]; exact Rd.nil.weak
 | [x], h => by
   show RdS (D2 [f x] comma) (g x)
   rw [Jb]; exact h x (by simp)
 | x :: y :: r, h => by
   have ih := rd_join (y :: r) fun z hz => h z (List.mem_cons_of_mem _ hz)
   show RdS (D2 (f x :: f y :: r.map f) comma) (g x ++ BH ⟨#[44]⟩ :: Ej (g y :: r.map g))
   rw [joinB_two]
   have e : g x ++ BH ⟨#[44]⟩ :: Ej (g y :: r.map g) = (g x ++ [BH ⟨#[44]⟩]) ++ Ej (g y :: r.map g) := by simp
   rw [e]
   exact ((h x (by simp)).app bar_comma rd_comma).appS ih
def Eh (a : Atomt) : List Key := (1, 0, a.name) :: BH ⟨#[40]⟩ :: (Ej (a.args.map fun t => [Ei t]) ++ [BH ⟨#[41]⟩])
theorem rd_atom {a : Atomt} (h : Db a = true) : Rd (Da a) (Eh a) := by
 rw [FT h]
 simp only [Db, DR, Bool.and_eq_true] at h
 have h1 := (Hp h.1.1).app bar_open rd_open
 have h2 := h1.appS (rd_join (f := BF) (g := fun t => [Ei t]) a.args fun t ht => rd_term (List.all_eq_true.1 h.2.2 t ht))
 have h3 := h2.app bar_close rd_close
 have e : Eh a = [(1, 0, a.name)] ++ [BH ⟨#[40]⟩] ++ Ej (a.args.map fun t => [Ei t]) ++ [BH ⟨#[41]⟩] := by simp [Eh]
 rw [e]; exact h3
def FN (l : Litt) : List Key := if l.kind = 1 then Eh l.atom else if l.kind = 2 then (1, 0, FG) :: Eh l.atom else [Ei l.a, BH (EQ l.op), Ei l.b]
theorem rd_not : Rd ⟨#[110, 111, 116, 32]⟩ [(1, 0, FG)] := (Hp (w := FG) (by decide)).app bar_space rd_space
theorem op_four {op : Int} (h : 1 ≤ op ∧ op ≤ 4) : op = 1 ∨ op = 2 ∨ op = 3 ∨ op = 4 := by omega
theorem rd_op {op : Int} (h : 1 ≤ op ∧ op ≤ 4) : Rd (EQ op ++ ⟨#[32]⟩) [BH (EQ op)] := by
 rcases op_four h with rfl | rfl | rfl | rfl
 · exact rd_eq.app rd_space
 · exact rd_ne.app rd_space
 · exact read_less
 · exact rd_le.app rd_space
theorem rd_lit {l : Litt} (h : Cs l = true) : RdS (C0 l) (FN l) := by
 unfold C0 FN
 by_cases h1 : l.kind = 1
 · rw [if_pos h1, if_pos h1]
   unfold Cs at h
   rw [if_pos (.inl h1)] at h
   simp only [Bool.and_eq_true] at h
   exact (rd_atom h.1).weak
 · by_cases h2 : l.kind = 2
   · rw [if_neg h1, if_neg h1, if_pos h2, if_pos h2]
     unfold Cs at h
     rw [if_pos (.inr h2)] at h
     simp only [Bool.and_eq_true] at h
     exact (rd_not.app (rd_atom h.1)).weak
   · rw [if_neg h1, if_neg h1, if_neg h2, if_neg h2]
     obtain ⟨q1, q2, q3, q4⟩ := CG h h1 h2
     have e : BF l.a ++ ⟨#[32]⟩ ++ EQ l.op ++ ⟨#[32]⟩ ++ BF l.b = BF l.a ++ ⟨#[32]⟩ ++ (EQ l.op ++ ⟨#[32]⟩) ++ BF l.b := by simp only [ByteArray.append_assoc]
     rw [e]
     exact (((rd_term q3).app bar_space rd_space).app (rd_op ⟨q1, q2⟩)).appS (rd_term q4)
def signK (k : Int) : List Key := if k = 1 then [] else [BH (EV k)]
def GZ (l : List Litt) : List Key := if l = [] then [] else BH ⟨#[58, 45]⟩ :: Ej (l.map FN)
def FX (r : Rulet) : List Key := signK r.kind ++ Eh r.head ++ GZ r.body ++ [BH ⟨#[46]⟩]
theorem rd_sign {k : Int} (h : 1 ≤ k ∧ k ≤ 3) : Rd (EV k) (signK k) := by
 have : k = 1 ∨ k = 2 ∨ k = 3 := by omega
 rcases this with rfl | rfl | rfl
 · exact Rd.nil
 · exact rd_plus
 · exact rd_minus
theorem bar_dot : Bar ⟨#[46]⟩ := ⟨by decide, by decide⟩
theorem rd_rule {r : Rulet} (h : Cx r = true) : Rd (E5 r) (FX r) := by
 obtain ⟨k1, k2, k3, k4⟩ := FM h
 have ha : Db r.head = true := by
   simp only [Cx, Bool.and_eq_true] at h; exact h.2.1
 rw [CD h]
 have h1 := (rd_sign ⟨k1, k2⟩).app (rd_atom ha)
 refine RdS.app ?_ bar_dot rd_dot
 unfold GZ Eg
 by_cases hb : r.body = []
 · rw [if_pos hb, if_pos (by rw [hb]; rfl), CI, List.append_nil]; exact h1.weak
 · have hl : ¬ r.body.length = 0 := fun q => hb (List.eq_nil_of_length_eq_zero q)
   rw [if_neg hb, if_neg hl, Gy (Nat.le_refl _)]
   have h2 : Rd (⟨#[32, 58, 45, 32]⟩ : ByteArray) [BH ⟨#[58, 45]⟩] := (rd_space.app rd_if).app rd_space
   exact h1.appS (h2.appS (rd_join r.body fun l hl => rd_lit (k4 l hl)))
def declK' (d : Declt) : List Key := [(1, 0, FB d.kind), (1, 0, d.name), BH ⟨#[47]⟩, (3, d.arity, ⟨#[]⟩), BH ⟨#[46]⟩]
theorem rd_decl {d : Declt} (h : Cc d = true) : Rd (Dj d) (declK' d) := by
 simp only [Cc, DR, Bool.and_eq_true, decide_eq_true_eq] at h
 have hk : C7 (FB d.kind) = true := by
   have : d.kind = 1 ∨ d.kind = 2 ∨ d.kind = 3 := by omega
   rcases this with e | e | e <;> rw [e] <;> decide
 have hn : Df d.arity = true := by unfold Df; rw [decide_eq_true_eq]; omega
 unfold Dj
 have e : (⟨#[46, 10]⟩ : ByteArray) = ⟨#[46]⟩ ++ ⟨#[10]⟩ := rfl
 have h0 : Rd (⟨#[46, 10]⟩ : ByteArray) [BH ⟨#[46]⟩] := rd_dot.app rd_line
 exact ((((((Hp hk).app bar_space rd_space).appS (Hp h.2.1)).app bar_slash rd_slash).appS (read_num hn)).app ⟨by decide, by decide⟩ h0)
theorem rd_lineR {r : Rulet} (h : Cx r = true) : Rd (Dy r) (FX r) := by
 have := (rd_rule h).app rd_line
 rw [List.append_nil] at this
 exact this
theorem rd_cat {α : Type} {f : α → ByteArray} {g : α → List Key} {xs : List α} (h : ∀ x ∈ xs, Rd (f x) (g x)) : ∀ k, k ≤ xs.length → Rd (G9 f xs k) ((xs.take k).flatMap g)
 | 0, _ => Rd.nil
 | k + 1, hk => by
   rw [Ez (by omega), List.take_succ_eq_append_getElem (by omega), List.flatMap_append]
   have := (rd_cat h k (by omega)).app (h _ (List.getElem_mem (l := xs) (n := k) (by omega)))
   simpa using this
def progK (p : Programt) : List Key := p.decls.flatMap declK' ++ p.rules.flatMap FX
theorem rd_prog {p : Programt} (h : Bm p = true) : Rd (BU p p.decls.length p.rules.length) (progK p) := by
 simp only [Bm, Bool.and_eq_true] at h
 have h1 := rd_cat (fun d hd => rd_decl (List.all_eq_true.1 h.2.1 d hd)) p.decls.length (Nat.le_refl _)
 have h2 := rd_cat (fun r hr => rd_lineR (List.all_eq_true.1 h.2.2 r hr)) p.rules.length (Nat.le_refl _)
 rw [List.take_of_length_le (Nat.le_refl _)] at h1 h2
 exact h1.app h2
theorem lex_prog {p : Programt} (h : Bm p = true) (hs : (BU p p.decls.length p.rules.length).size ≤ 6000) : ∃ toks, AF (BU p p.decls.length p.rules.length) = (toks, 0, 0) ∧ toks.map tkey = progK p := by
 generalize hw : BU p p.decls.length p.rules.length = w at hs ⊢
 have h1 := rd_prog h
 rw [hw] at h1
 obtain ⟨toks, e, f⟩ := h1 w 0 (Has.all w)
 have h2 := f []
 rw [comb_start, lex_end (j := 0 + w.size) (by omega)] at h2
 refine ⟨toks, ?_, e⟩
 rw [Dz (by omega), h2]
 simp [Fb]
end Go.Proofs.YtkemjhlbokldhaaGreat

namespace Go.Proofs.YtkemjhlbokldhaaGreat
open Go.RowKit
set_option linter.unusedVariables false
set_option linter.unusedSimpArgs false

theorem same_val {a : Val} (h : Dq a noVal = true) : a = noVal := by
 unfold Dq at h
 simp only [Bool.and_eq_true, beq_iff_eq] at h
 have h2 : a.s = noVal.s := ba_iff.1 (by simpa using h.2)
 cases a
 simp only at h h2
 rw [h.1, h2]
theorem I5 {a : Termt} (h : Dh a BP = true) : a = BP := by
 unfold Dh at h
 simp only [Bool.and_eq_true] at h
 have h1 := ba_iff.1 h.1
 have h2 := same_val h.2
 cases a
 simp only at h1 h2
 rw [h1, h2]; rfl
theorem kept_words {s : ByteArray} (h : E2 s = false) : Gi s = 0 ∧ ¬ s = FG := by
 simp only [E2, Bool.or_eq_false_iff, ByteArray.toList_eq] at h
 obtain ⟨⟨⟨h1, h2⟩, h3⟩, h4⟩ := h
 have n : ∀ l : List UInt8, (s.data.toList == l) = false → ¬ s = (⟨l.toArray⟩ : ByteArray) := fun l hl e => by
   rw [e] at hl; simp at hl
 constructor
 · unfold Gi
   rw [if_neg (fun q => n _ h1 (ba_iff.1 q)), if_neg (fun q => n _ h2 (ba_iff.1 q)), if_neg (fun q => n _ h3 (ba_iff.1 q))]
 · exact n _ h4
section
variable {tk : List Tokent} {e : Int}
def Ok (tk : List Tokent) (st : PS) (ks : List Key) : Prop := st.code = 0 ∧ (tk.drop st.i).map tkey = ks
theorem ok_cons {st : PS} {k : Key} {ks : List Key} (h : Ok tk st (k :: ks)) : ∃ hi : st.i < tk.length, tkey tk[st.i] = k ∧ AA tk e st = tk[st.i] ∧ Ok tk st.next ks := by
 obtain ⟨h0, h1⟩ := h
 have hi : st.i < tk.length := by
   refine Classical.byContradiction fun q => ?_
   rw [List.drop_of_length_le (by omega)] at h1
   cases h1
 rw [List.drop_eq_getElem_cons hi, List.map_cons] at h1
 have h2 := List.cons.inj h1
 exact ⟨hi, h2.1, EC h0 hi, h0, h2.2⟩
theorem ok_nil {st : PS} (h : Ok tk st []) : ¬ st.i < tk.length := by
 intro hi
 have h1 := h.2
 rw [List.drop_eq_getElem_cons hi, List.map_cons] at h1
 cases h1
theorem De {st : PS} {a : Int} {b : Int} {s : ByteArray} {ks : List Key} (h : Ok tk st ((a, b, s) :: ks)) : (AA tk e st).kind = a ∧ (AA tk e st).n = b ∧ (AA tk e st).s = s ∧ Ok tk st.next ks ∧ st.i < tk.length := by
 obtain ⟨hi, h1, h2, h3⟩ := ok_cons (e := e) h
 rw [h2]
 have : ((tk[st.i]).kind, (tk[st.i]).n, (tk[st.i]).s) = (a, b, s) := h1
 simp only [Prod.mk.injEq] at this
 exact ⟨this.1, this.2.1, this.2.2, h3, hi⟩
theorem Ep {st : PS} {s : ByteArray} {ks : List Key} (h : Ok tk st (BH s :: ks)) (s2 : ByteArray) : Bt (AA tk e st) s2 = (s == s2) := by
 obtain ⟨h1, _, h3, _⟩ := De (e := e) h
 unfold Bt; rw [h1, h3]; rfl
theorem ok_name {st : PS} {b : Int} {s : ByteArray} {ks : List Key} (h : Ok tk st ((1, b, s) :: ks)) (s2 : ByteArray) : Bt (AA tk e st) s2 = false ∧ BJ (AA tk e st) = !E2 s ∧ CP (AA tk e st) = (s == FG) := by
 obtain ⟨h1, _, h3, _⟩ := De (e := e) h
 unfold Bt BJ CP; rw [h1, h3]; exact ⟨rfl, by simp, by simp⟩
theorem Hk {st : PS} {s : ByteArray} {ks : List Key} (h : Ok tk st (BH s :: ks)) : BY tk e s st = st.next ∧ Ok tk st.next ks :=
 ⟨take_ok (by rw [Ep h]; exact ba_iff.2 rfl), (De (e := e) h).2.2.2.1⟩
theorem nameB_kept {s : ByteArray} (h : DR s = true) : C7 s = true ∧ E2 s = false := by
 unfold DR at h
 simp only [Bool.and_eq_true, Bool.not_eq_true'] at h; exact h
theorem word_at {st : PS} {s : ByteArray} {ks : List Key} (h : Ok tk st ((1, 0, s) :: ks)) (hs : DR s = true) : BK tk e st = (s, st.next) ∧ Ok tk st.next ks := by
 obtain ⟨h1, _, h3, h4, _⟩ := De (e := e) h
 have hn : BJ (AA tk e st) = true := by rw [(ok_name h ⟨#[]⟩).2.1, (nameB_kept hs).2]; rfl
 refine ⟨?_, h4⟩
 rw [word_ok hn, h3]
theorem HU {st : PS} {t : Termt} {ks : List Key} (h : Ok tk st (Ei t :: ks)) (ht : Cv t = true) : AM tk e false st = (t, st.next) ∧ Ok tk st.next ks ∧ BN (AA tk e st) = true ∧ CP (AA tk e st) = false := by
 have key : ∀ (a b : Int) (s : ByteArray), Ei t = (a, b, s) → Ok tk st ((a, b, s) :: ks) := fun a b s q => by rw [← q]; exact h
 unfold Cv at ht
 by_cases hv : (t.var == (⟨#[]⟩ : ByteArray)) = true
 · rw [if_pos hv] at ht
   simp only [Bool.and_eq_true, Bool.not_eq_true'] at ht
   have hok := ht.1
   unfold CV at hok
   have hv' := ba_iff.1 hv
   by_cases he : t.val.s.toList.isEmpty = true
   · have ks' := key 3 t.val.n ⟨#[]⟩ (by unfold Ei; rw [if_pos hv, if_pos he])
     obtain ⟨h1, h2, h3, h4, _⟩ := De (e := e) ks'
     have hT : BN (AA tk e st) = true := by simp [BN, h1]
     have hs : t.val.s = ⟨#[]⟩ := by
       rw [ByteArray.toList_eq] at he
       refine Gd ?_
       have : t.val.s.data.toList = [] := by simpa using he
       rw [this]
     refine ⟨?_, h4, hT, by simp [CP, h1]⟩
     rw [Hi hT, of_num (by omega) h1, h2]
     cases t with | mk v w => cases w with | mk n s => simp only at hv' hs; subst hv'; subst hs; rfl
   · have ks' := key 1 0 t.val.s (by unfold Ei; rw [if_pos hv, if_neg he])
     obtain ⟨h1, h2, h3, h4, _⟩ := De (e := e) ks'
     have hk := ok_name (e := e) ks' ⟨#[]⟩
     have hT : BN (AA tk e st) = true := by simp [BN, hk.2.1, ht.2]
     rw [if_neg he] at hok
     simp only [Bool.and_eq_true, beq_iff_eq] at hok
     refine ⟨?_, h4, hT, ?_⟩
     · rw [Hi hT, of_name (by omega) (by omega), h3]
       have hn := hok.1
       cases t with | mk v w => cases w with | mk n s => simp only at hv' hn; subst hv'; subst hn; rfl
     · rw [hk.2.2]
       exact ba_no.2 (kept_words ht.2).2
 · rw [if_neg hv] at ht
   simp only [Bool.and_eq_true] at ht
   have ks' := key 2 0 t.var (by unfold Ei; rw [if_neg hv])
   obtain ⟨h1, h2, h3, h4, _⟩ := De (e := e) ks'
   have hT : BN (AA tk e st) = true := by simp [BN, h1]
   refine ⟨?_, h4, hT, by simp [CP, h1]⟩
   have hw := same_val ht.2
   rw [Hi hT, of_var h1, h3]
   cases t with | mk v w => simp only at hw; subst hw; rfl
theorem args_at {ks : List Key} : ∀ (ts : List Termt) (f : Nat) (st : PS) (a : List Termt), ¬ ts = [] → (∀ t ∈ ts, Cv t = true) → Ok tk st (Ej (ts.map fun t => [Ei t]) ++ BH ⟨#[41]⟩ :: ks) → a.length + ts.length ≤ 6 → ts.length ≤ f →
   ∃ st', Dp tk e f st a = (a ++ ts, st') ∧ Ok tk st' (BH ⟨#[41]⟩ :: ks)
 | [], f, st, a, hn, _, _, _, _ => absurd rfl hn
 | [t], f, st, a, _, ht, ho, hl, hf => by
   obtain ⟨f, rfl⟩ : ∃ f', f = f' + 1 := ⟨f - 1, by simp at hf; omega⟩
   obtain ⟨h1, h2, h3, _⟩ := HU (e := e) ho (ht t (by simp))
   refine ⟨st.next, ?_, h2⟩
   unfold Dp
   rw [if_pos ho.1, if_neg (by rintro ⟨_, q⟩; simp at hl; omega), h1, if_neg (by rw [Ep h2]; decide)]
 | t :: u :: r, f, st, a, _, ht, ho, hl, hf => by
   obtain ⟨f, rfl⟩ : ∃ f', f = f' + 1 := ⟨f - 1, by simp at hf; omega⟩
   have ho' : Ok tk st (Ei t :: BH ⟨#[44]⟩ :: (Ej ((u :: r).map fun t => [Ei t]) ++ BH ⟨#[41]⟩ :: ks)) := ho
   obtain ⟨h1, h2, h3, _⟩ := HU (e := e) ho' (ht t (by simp))
   have h4 := (De (e := e) (a := 4) (b := 0) (s := ⟨#[44]⟩) h2).2.2.2.1
   obtain ⟨st', g1, g2⟩ := args_at (u :: r) f st.next.next (a ++ [t]) (by simp) (fun x hx => ht x (List.mem_cons_of_mem _ hx)) h4 (by simp at hl ⊢; omega) (by simp at hf ⊢; omega)
   refine ⟨st', ?_, g2⟩
   unfold Dp
   rw [if_pos ho.1, if_neg (by rintro ⟨_, q⟩; simp at hl; omega), h1, if_pos (by rw [Ep h2]; exact ba_iff.2 rfl)]
   rw [g1]
   simp
theorem atom_parts {a : Atomt} (h : Db a = true) : DR a.name = true ∧ a.args.length ≤ 6 ∧ ∀ t ∈ a.args, Cv t = true := by
 simp only [Db, Bool.and_eq_true, decide_eq_true_eq] at h
 exact ⟨h.1, h.2.1, List.all_eq_true.1 h.2.2⟩
theorem atom_at {st : PS} {a : Atomt} {ks : List Key} (h : Ok tk st (Eh a ++ ks)) (ha : Db a = true) : ∃ st', Cd tk e st = (a, st') ∧ Ok tk st' ks := by
 obtain ⟨p1, p2, p3⟩ := atom_parts ha
 have h' : Ok tk st ((1, 0, a.name) :: BH ⟨#[40]⟩ :: (Ej (a.args.map fun t => [Ei t]) ++ BH ⟨#[41]⟩ :: ks)) := by
   have e1 : Eh a ++ ks = (1, 0, a.name) :: BH ⟨#[40]⟩ :: (Ej (a.args.map fun t => [Ei t]) ++ BH ⟨#[41]⟩ :: ks) := by simp [Eh]
   rw [e1] at h; exact h
 obtain ⟨w1, w2⟩ := word_at (e := e) h' p1
 obtain ⟨t1, t2⟩ := Hk (e := e) w2
 have ho : B7 tk e st = st.next.next := by unfold B7; rw [w1, t1]
 by_cases hn : a.args = []
 · rw [hn] at t2
   have t3 : Ok tk st.next.next (BH ⟨#[41]⟩ :: ks) := t2
   refine ⟨st.next.next.next, ?_, (Hk (e := e) t3).2⟩
   rw [atomI_none (by rw [ho, Ep t3]; exact ba_iff.2 rfl), w1, ho]
   cases a with | mk n l => simp only at hn; rw [hn]
 · have hc : Bt (AA tk e (B7 tk e st)) ⟨#[41]⟩ = false := by
     rw [ho]
     cases ha2 : a.args with
     | nil => exact absurd ha2 hn
     | cons t r =>
       have hT : BN (AA tk e st.next.next) = true := by
         rw [ha2] at t2
         have ht := p3 t (by rw [ha2]; simp)
         cases r with
         | nil => exact (HU (e := e) (t := t) t2 ht).2.2.1
         | cons u r => exact (HU (e := e) (t := t) t2 ht).2.2.1
       cases q : Bt (AA tk e st.next.next) ⟨#[41]⟩ with
       | false => rfl
       | true =>
         have k4 := DY q
         simp [BN, BJ, k4] at hT
   obtain ⟨st', g1, g2⟩ := args_at (e := e) a.args 8 st.next.next [] hn p3 t2 (by simpa using p2) (by omega)
   have hs := FE (tk := tk) (e := e) (st := st) (s2 := st') (a := a.args) hc (by rw [ho, g1]; rfl)
   obtain ⟨q1, q2⟩ := Hk (e := e) g2
   refine ⟨st'.next, ?_, q2⟩
   rw [hs, q1, w1]
theorem lit_at {st : PS} {l : Litt} {ks : List Key} (h : Ok tk st (FN l ++ ks)) (hl : Cs l = true) : ∃ st', CQ tk e st = (l, st') ∧ Ok tk st' ks ∧ BL (AA tk e st) = true := by
 unfold FN at h
 have hl0 := hl
 unfold Cs at hl
 by_cases h1 : l.kind = 1
 · rw [if_pos h1] at h
   rw [if_pos (.inl h1)] at hl
   simp only [Bool.and_eq_true, decide_eq_true_eq] at hl
   obtain ⟨p1, p2, p3⟩ := atom_parts hl.1
   have h' : Ok tk st ((1, 0, l.atom.name) :: BH ⟨#[40]⟩ :: (Ej (l.atom.args.map fun t => [Ei t]) ++ BH ⟨#[41]⟩ :: ks)) := by
     have e1 : Eh l.atom ++ ks = (1, 0, l.atom.name) :: BH ⟨#[40]⟩ :: (Ej (l.atom.args.map fun t => [Ei t]) ++ BH ⟨#[41]⟩ :: ks) := by simp [Eh]
     rw [e1] at h; exact h
   have hn := ok_name (e := e) h' ⟨#[]⟩
   have hk := nameB_kept p1
   have hnot : CP (AA tk e st) = false := by rw [hn.2.2]; exact ba_no.2 (kept_words hk.2).2
   have hnm : BJ (AA tk e st) = true := by rw [hn.2.1, hk.2]; rfl
   have hop : CW tk e st = true := by
     unfold CW
     rw [hnm, Ep (De (e := e) h').2.2.2.1, ba_iff.2 rfl]; rfl
   obtain ⟨st', g1, g2⟩ := atom_at (e := e) h hl.1
   refine ⟨st', ?_, g2, by simp [BL, BN, hnm]⟩
   rw [litI_is hnot hop, g1]
   have q1 := I5 hl.2.2.1
   have q2 := I5 hl.2.2.2
   have q3 := hl.2.1
   cases l with | mk k at' op a b => simp only at h1 q1 q2 q3; rw [h1, q1, q2, q3]
 · by_cases h2 : l.kind = 2
   · rw [if_neg h1, if_pos h2] at h
     rw [if_pos (.inr h2)] at hl
     simp only [Bool.and_eq_true, decide_eq_true_eq] at hl
     have h' : Ok tk st ((1, 0, FG) :: (Eh l.atom ++ ks)) := h
     have hnot : CP (AA tk e st) = true := by rw [(ok_name (e := e) h' ⟨#[]⟩).2.2]; exact ba_iff.2 rfl
     obtain ⟨st', g1, g2⟩ := atom_at (e := e) (De (e := e) h').2.2.2.1 hl.1
     refine ⟨st', ?_, g2, by simp [BL, hnot]⟩
     rw [litI_not hnot, g1]
     have q1 := I5 hl.2.2.1
     have q2 := I5 hl.2.2.2
     have q3 := hl.2.1
     cases l with | mk k at' op a b => simp only at h2 q1 q2 q3; rw [h2, q1, q2, q3]
   · rw [if_neg h1, if_neg h2] at h
     rw [if_neg (by rintro (q | q); exact h1 q; exact h2 q)] at hl
     by_cases h3 : l.kind = 3
     · rw [if_pos h3] at hl
       simp only [Bool.and_eq_true, decide_eq_true_eq] at hl
       obtain ⟨⟨o1, o2⟩, n1, n2, ta, tb⟩ := hl
       have h' : Ok tk st (Ei l.a :: BH (EQ l.op) :: Ei l.b :: ks) := h
       obtain ⟨g1, g2, g3, g4⟩ := HU (e := e) h' ta
       have hnext := fun s2 => Ep (e := e) g2 s2
       have hopen : CW tk e st = false := by
         unfold CW
         rw [hnext]
         rcases op_four ⟨o1, o2⟩ with q | q | q | q <;> rw [q] <;> (cases BJ (AA tk e st) <;> decide)
       have hop : opI (AA tk e st.next) = l.op := by
         obtain ⟨k1, _, k3, _⟩ := De (e := e) (a := 4) (b := 0) (s := EQ l.op) g2
         unfold opI
         rw [if_pos k1, k3]
         rcases op_four ⟨o1, o2⟩ with q | q | q | q <;> rw [q] <;> decide
       have hbeg : BL (AA tk e st) = true := by simp [BL, g3]
       obtain ⟨b1, b2, _⟩ := HU (e := e) (De (e := e) (a := 4) (b := 0) (s := EQ l.op) g2).2.2.2.1 tb
       refine ⟨st.next.next.next, ?_, b2, hbeg⟩
       have hc := CE (tk := tk) (e := e) (st := st) g4 hopen (by rw [g1]; show ¬ opI (AA tk e st.next) < 1; rw [hop]; omega)
       rw [g1] at hc
       have hc2 : CQ tk e st = (⟨3, H8, opI (AA tk e st.next), l.a, (AM tk e false st.next.next).1⟩, (AM tk e false st.next.next).2) := hc
       rw [hc2, b1, hop]
       have a1 := ba_iff.1 n1
       have a2 := List.eq_nil_of_length_eq_zero n2
       cases l with | mk k at' op a b => cases at' with | mk nm ar => simp only at h3 a1 a2; rw [h3, a1, a2]
     · rw [if_neg h3] at hl; cases hl
theorem body_at {ks : List Key} : ∀ (ls : List Litt) (f : Nat) (st : PS) (a : List Litt), ¬ ls = [] → (∀ l ∈ ls, Cs l = true) → Ok tk st (Ej (ls.map FN) ++ BH ⟨#[46]⟩ :: ks) → a.length + ls.length ≤ 8 → ls.length ≤ f →
   ∃ st', CU tk e f st a = (a ++ ls, st') ∧ Ok tk st' (BH ⟨#[46]⟩ :: ks)
 | [], f, st, a, hn, _, _, _, _ => absurd rfl hn
 | [l], f, st, a, _, ht, ho, hl, hf => by
   obtain ⟨f, rfl⟩ : ∃ f', f = f' + 1 := ⟨f - 1, by simp at hf; omega⟩
   obtain ⟨st', h1, h2, h3⟩ := lit_at (e := e) (l := l) ho (ht l (by simp))
   refine ⟨st', ?_, h2⟩
   unfold CU
   rw [if_pos ho.1, if_neg (by rintro ⟨_, q⟩; simp at hl; omega), h1, if_neg (by rw [Ep h2]; decide)]
 | l :: u :: r, f, st, a, _, ht, ho, hl, hf => by
   obtain ⟨f, rfl⟩ : ∃ f', f = f' + 1 := ⟨f - 1, by simp at hf; omega⟩
   have ho' : Ok tk st (FN l ++ (BH ⟨#[44]⟩ :: (Ej ((u :: r).map FN) ++ BH ⟨#[46]⟩ :: ks))) := by
     have e1 : Ej ((l :: u :: r).map FN) ++ BH ⟨#[46]⟩ :: ks = FN l ++ (BH ⟨#[44]⟩ :: (Ej ((u :: r).map FN) ++ BH ⟨#[46]⟩ :: ks)) := by
       show (FN l ++ BH ⟨#[44]⟩ :: Ej ((u :: r).map FN)) ++ BH ⟨#[46]⟩ :: ks = _
       simp
     rw [e1] at ho; exact ho
   obtain ⟨st1, h1, h2, h3⟩ := lit_at (e := e) ho' (ht l (by simp))
   have h4 := (De (e := e) (a := 4) (b := 0) (s := ⟨#[44]⟩) h2).2.2.2.1
   obtain ⟨st', g1, g2⟩ := body_at (u :: r) f st1.next (a ++ [l]) (by simp) (fun x hx => ht x (List.mem_cons_of_mem _ hx)) h4 (by simp at hl ⊢; omega) (by simp at hf ⊢; omega)
   refine ⟨st', ?_, g2⟩
   unfold CU
   rw [if_pos ho.1, if_neg (by rintro ⟨_, q⟩; simp at hl; omega), h1, if_pos (by rw [Ep h2]; exact ba_iff.2 rfl)]
   rw [g1]
   simp
theorem rule_at {st : PS} {r : Rulet} {ks : List Key} (h : Ok tk st (FX r ++ ks)) (hr : Cx r = true) : ∃ st', C6 tk e st = (r, st') ∧ Ok tk st' ks ∧ Bo (AA tk e st) = true ∧ ¬ 0 < BO (AA tk e st) := by
 obtain ⟨k1, k2, k3, k4⟩ := FM hr
 have ha : Db r.head = true := by
   simp only [Cx, Bool.and_eq_true] at hr; exact hr.2.1
 obtain ⟨p1, p2, p3⟩ := atom_parts ha
 have hk := nameB_kept p1
 have h' : Ok tk st (signK r.kind ++ (Eh r.head ++ (GZ r.body ++ BH ⟨#[46]⟩ :: ks))) := by
   have e1 : FX r ++ ks = signK r.kind ++ (Eh r.head ++ (GZ r.body ++ BH ⟨#[46]⟩ :: ks)) := by simp [FX]
   rw [e1] at h; exact h
 have hp : ∃ s0, BX tk e st = (r.kind, s0) ∧ Ok tk s0 (Eh r.head ++ (GZ r.body ++ BH ⟨#[46]⟩ :: ks)) ∧ Bo (AA tk e st) = true ∧ ¬ 0 < BO (AA tk e st) := by
   have hc : r.kind = 1 ∨ r.kind = 2 ∨ r.kind = 3 := by omega
   rcases hc with q | q | q
   · rw [q] at h' ⊢
     have h2 : Ok tk st ((1, 0, r.head.name) :: ((BH ⟨#[40]⟩ :: (Ej (r.head.args.map fun t => [Ei t]) ++ [BH ⟨#[41]⟩])) ++ (GZ r.body ++ BH ⟨#[46]⟩ :: ks))) := h'
     have hn := fun s2 => ok_name (e := e) h2 s2
     obtain ⟨u1, _, u3, _⟩ := De (e := e) h2
     have hnm : BJ (AA tk e st) = true := by rw [(hn ⟨#[]⟩).2.1, hk.2]; rfl
     refine ⟨st, I6 (hn _).1 (hn _).1, h', by simp [Bo, hnm], ?_⟩
     have q2 := (kindI_pos (AA tk e st)).1
     have q3 : CS (AA tk e st) = 0 := by unfold CS; rw [if_pos u1, u3]; exact (kept_words hk.2).1
     rw [q2, q3]; decide
   · rw [q] at h' ⊢
     have h2 : Ok tk st (BH ⟨#[43]⟩ :: (Eh r.head ++ (GZ r.body ++ BH ⟨#[46]⟩ :: ks))) := h'
     have hs := Ep (e := e) h2 ⟨#[43]⟩
     have hs' : Bt (AA tk e st) ⟨#[43]⟩ = true := by rw [hs]; exact ba_iff.2 rfl
     refine ⟨st.next, plus_plus hs', (De (e := e) (a := 4) (b := 0) (s := ⟨#[43]⟩) h2).2.2.2.1, by simp [Bo, hs'], ?_⟩
     intro q2; have := HF q2; have := DY hs'; omega
   · rw [q] at h' ⊢
     have h2 : Ok tk st (BH ⟨#[45]⟩ :: (Eh r.head ++ (GZ r.body ++ BH ⟨#[46]⟩ :: ks))) := h'
     have hs' : Bt (AA tk e st) ⟨#[45]⟩ = true := by rw [Ep (e := e) h2]; exact ba_iff.2 rfl
     have hs0 : Bt (AA tk e st) ⟨#[43]⟩ = false := by rw [Ep (e := e) h2]; decide
     refine ⟨st.next, plus_minus hs0 hs', (De (e := e) (a := 4) (b := 0) (s := ⟨#[45]⟩) h2).2.2.2.1, by simp [Bo, hs'], ?_⟩
     intro q2; have := HF q2; have := DY hs'; omega
 obtain ⟨s0, f1, f2, f3, f4⟩ := hp
 obtain ⟨s1, g1, g2⟩ := atom_at (e := e) f2 ha
 have e1 : (Cd tk e s0).2 = s1 := by rw [g1]
 have e2 : (Cd tk e s0).1 = r.head := by rw [g1]
 by_cases hb : r.body = []
 · have g3 : Ok tk s1 (BH ⟨#[46]⟩ :: ks) := by
     have : GZ r.body = [] := by unfold GZ; rw [if_pos hb]
     rw [this] at g2; exact g2
   obtain ⟨t1, t2⟩ := Hk (e := e) g3
   refine ⟨s1.next, ?_, t2, f3, f4⟩
   rw [GQ f1 (by rw [e1, Ep g3]; decide), e1, e2, t1]
   cases r with | mk k hd bd => simp only at hb; rw [hb]
 · have g3 : Ok tk s1 (BH ⟨#[58, 45]⟩ :: (Ej (r.body.map FN) ++ BH ⟨#[46]⟩ :: ks)) := by
     have : GZ r.body = BH ⟨#[58, 45]⟩ :: Ej (r.body.map FN) := by unfold GZ; rw [if_neg hb]
     rw [this] at g2; exact g2
   have g4 := (De (e := e) (a := 4) (b := 0) (s := ⟨#[58, 45]⟩) g3).2.2.2.1
   obtain ⟨s2, b1, b2⟩ := body_at (e := e) r.body 10 s1.next [] hb k4 g4 (by simp; omega) (by omega)
   obtain ⟨t1, t2⟩ := Hk (e := e) b2
   refine ⟨s2.next, ?_, t2, f3, f4⟩
   rw [GP f1 (by rw [e1, Ep g3]; exact ba_iff.2 rfl), e1, e2, b1]
   show (_, BY tk e ⟨#[46]⟩ s2) = _
   rw [t1]
   rfl
theorem decl_at {st : PS} {d : Declt} {ks : List Key} (h : Ok tk st (declK' d ++ ks)) (hd : Cc d = true) : ∃ st', CT tk e d.kind st = (d, st') ∧ Ok tk st' ks ∧ BO (AA tk e st) = d.kind := by
 simp only [Cc, Bool.and_eq_true, decide_eq_true_eq] at hd
 have h' : Ok tk st ((1, 0, FB d.kind) :: (1, 0, d.name) :: BH ⟨#[47]⟩ :: (3, d.arity, ⟨#[]⟩) :: BH ⟨#[46]⟩ :: ks) := h
 obtain ⟨u1, _, u3, u4, _⟩ := De (e := e) h'
 obtain ⟨w1, w2⟩ := word_at (e := e) u4 hd.2
 obtain ⟨t1, t2⟩ := Hk (e := e) w2
 have hs : BB tk e st.next = st.next.next.next := by unfold BB; rw [w1, t1]
 obtain ⟨v1, v2, v3, v4, _⟩ := De (e := e) t2
 obtain ⟨x1, x2⟩ := Hk (e := e) v4
 refine ⟨st.next.next.next.next.next, ?_, x2, ?_⟩
 · rw [declI_ok (by rw [hs]; exact v1) (by rw [hs, v2]; omega), hs, v2, w1, x1]
 · unfold BO
   rw [if_pos u1, u3]
   have : d.kind = 1 ∨ d.kind = 2 ∨ d.kind = 3 := by omega
   rcases this with q | q | q <;> rw [q] <;> decide
theorem rules_at : ∀ (rs' : List Rulet) (f : Nat) (st : PS) (ds : List Declt) (rs : List Rulet), (∀ r ∈ rs', Cx r = true) → Ok tk st (rs'.flatMap FX) → rs.length + rs'.length ≤ 24 → rs'.length + 1 ≤ f →
   ∃ st', Dn tk e f st ds rs = (ds, rs ++ rs', st') ∧ st'.code = 0
 | [], f, st, ds, rs, _, ho, _, hf => by
   obtain ⟨f, rfl⟩ : ∃ f', f = f' + 1 := ⟨f - 1, by omega⟩
   have := ok_nil ho
   refine ⟨st, ?_, ho.1⟩
   rw [Dn, if_neg (fun q => this q.2), List.append_nil]
 | r :: rs', f, st, ds, rs, hr, ho, hl, hf => by
   obtain ⟨f, rfl⟩ : ∃ f', f = f' + 1 := ⟨f - 1, by omega⟩
   simp only [List.length_cons] at hl hf
   have ho' : Ok tk st (FX r ++ rs'.flatMap FX) := by rw [List.flatMap_cons] at ho; exact ho
   obtain ⟨s1, g1, g2, g3, g4⟩ := rule_at (e := e) ho' (hr r (by simp))
   have hi : st.code = 0 ∧ st.i < tk.length := D0 (tk := tk) (e := e) (st := st) (starts_kind g3)
   obtain ⟨st', q1, q2⟩ := rules_at rs' f s1 ds (rs ++ [r]) (fun x hx => hr x (List.mem_cons_of_mem _ hx)) g2 (by simp; omega) (by omega)
   refine ⟨st', ?_, q2⟩
   rw [Dn, if_pos hi, if_neg (by rintro (q | q); exact g4 q.1; omega), if_neg g4, if_pos g3, g1]
   show Dn tk e f s1 ds (rs ++ [r]) = _
   rw [q1]; simp
theorem decls_at : ∀ (ds' : List Declt) (rs' : List Rulet) (f : Nat) (st : PS) (ds : List Declt), (∀ d ∈ ds', Cc d = true) → (∀ r ∈ rs', Cx r = true) → Ok tk st (ds'.flatMap declK' ++ rs'.flatMap FX) → ds.length + ds'.length ≤ 16 → rs'.length ≤ 24 → ds'.length + rs'.length + 1 ≤ f →
   ∃ st', Dn tk e f st ds [] = (ds ++ ds', rs', st') ∧ st'.code = 0
 | [], rs', f, st, ds, _, hr, ho, _, hl2, hf => by
   obtain ⟨st', q1, q2⟩ := rules_at (e := e) rs' f st ds [] hr ho (by simp; omega) (by simp at hf; omega)
   exact ⟨st', by rw [q1]; simp, q2⟩
 | d :: ds', rs', f, st, ds, hd, hr, ho, hl, hl2, hf => by
   obtain ⟨f, rfl⟩ : ∃ f', f = f' + 1 := ⟨f - 1, by omega⟩
   simp only [List.length_cons] at hl hf
   have ho' : Ok tk st (declK' d ++ (ds'.flatMap declK' ++ rs'.flatMap FX)) := by rw [List.flatMap_cons, List.append_assoc] at ho; exact ho
   obtain ⟨s1, g1, g2, g3⟩ := decl_at (e := e) ho' (hd d (by simp))
   have hdk := hd d (by simp)
   simp only [Cc, Bool.and_eq_true, decide_eq_true_eq] at hdk
   have hk : 0 < BO (AA tk e st) := by rw [g3]; omega
   have hi : st.code = 0 ∧ st.i < tk.length := D0 (tk := tk) (e := e) (st := st) (by rw [HF hk]; decide)
   obtain ⟨st', q1, q2⟩ := decls_at ds' rs' f s1 (ds ++ [d]) (fun x hx => hd x (List.mem_cons_of_mem _ hx)) hr g2 (by simp; omega) hl2 (by omega)
   refine ⟨st', ?_, q2⟩
   rw [Dn, if_pos hi, if_neg (by rintro (q | q); omega; simp at q), if_pos hk, g3, g1]
   show Dn tk e f s1 (ds ++ [d]) [] = _
   rw [q1]; simp
end
theorem parse_print {p : Programt} {w : ByteArray} (h : BA p = (w, true)) : Dw w = (p, 0, 0) ∧ Bm p = true := by
 unfold BA at h
 by_cases hp : Bm p = true
 · rw [if_pos hp] at h
   by_cases hs : 6000 < (BU p p.decls.length p.rules.length).size
   · rw [if_pos hs] at h; simp at h
   · rw [if_neg hs] at h
     have hw : BU p p.decls.length p.rules.length = w := congrArg Prod.fst h
     obtain ⟨toks, e1, e2⟩ := lex_prog hp (by omega)
     rw [hw] at e1
     have hq := hp
     simp only [Bm, Bool.and_eq_true, decide_eq_true_eq] at hq
     obtain ⟨st', q1, q2⟩ := decls_at (tk := toks) (e := (w.size : Int)) p.decls p.rules 43 ⟨0, 0, 0⟩ [] (List.all_eq_true.1 hq.2.1) (List.all_eq_true.1 hq.2.2) ⟨rfl, by rw [List.drop_zero]; exact e2⟩ (by simp; omega) hq.1.2 (by omega)
     refine ⟨?_, hp⟩
     unfold Dw
     rw [e1]
     show (if (0 : Int) = 0 then Iv (Dn toks (w.size : Int) 43 ⟨0, 0, 0⟩ [] []) else _) = _
     rw [if_pos rfl, q1, List.nil_append]
     exact endR_ok q2
 · rw [if_neg hp] at h; simp at h
end Go.Proofs.YtkemjhlbokldhaaGreat

namespace Go.Proofs.YtkemjhlbokldhaaGreat
open Go.RowKit
set_option linter.unusedVariables false
set_option linter.unusedSimpArgs false

theorem print_le (p : Programt) : (BA p).1.size ≤ 6000 := by
 unfold BA
 split
 · split
   · exact Nat.zero_le _
   · dsimp only; omega
 · exact Nat.zero_le _
theorem print_two {p : Programt} (h : (BA p).2 = true) : BA p = ((BA p).1, true) := Prod.ext rfl h
end Go.Proofs.YtkemjhlbokldhaaGreat

namespace Go.Proofs.YtkemjhlbokldhaaGreat
open Go.RowKit
set_option linter.unusedVariables false

theorem program_sizes {ds : List Declt} {rs : List Rulet} (h : Bm ⟨ds, rs⟩ = true) : ds.length ≤ 16 ∧ rs.length ≤ 24 := by
 unfold Bm at h
 exact of_decide_eq_true (Bool.and_eq_true_iff.1 h).1
theorem rule_sizes {ds : List Declt} {rs : List Rulet} (h : Bm ⟨ds, rs⟩ = true) {i : Nat} (hi : i < rs.length) : rs[i].head.args.length ≤ 6 ∧ rs[i].body.length ≤ 8 := by
 unfold Bm at h
 have h1 := List.all_eq_true.1 (Bool.and_eq_true_iff.1 (Bool.and_eq_true_iff.1 h).2).2 rs[i] (List.getElem_mem hi)
 unfold Cx Db at h1
 simp only [Bool.and_eq_true, decide_eq_true_eq] at h1
 exact ⟨h1.2.1.2.1, h1.2.2.1⟩
theorem print_none {p : Programt} (h : (BA p).2 = false) : (BA p).1 = ⟨#[]⟩ := by
 unfold BA at *
 split
 · rename_i h1
   rw [if_pos h1] at h
   split
   · rfl
   · rename_i h2; rw [if_neg h2] at h; cases h
 · rfl
theorem place_of {G : Prop} {v : Int} {n : Nat} (h : 0 ≤ v ∧ v < (n : Int)) (hA : ∀ q : Nat, v = (q : Int) → q < n → G) : G := hA v.toNat (by omega) (by omega)
end Go.Proofs.YtkemjhlbokldhaaGreat

namespace Go.Proofs.YtkemjhlbokldhaaGreat
open Go.RowKit
set_option linter.unusedVariables false
set_option linter.unusedSimpArgs false
set_option maxRecDepth 100000

set_option maxHeartbeats 4000000 in
theorem any15_x [Old] (b : List Int) (c : Cur) (hb : b.length ≤ 1048576) : AX Tryz.prog 9 [.one (.ptr 200 0)] [(200, some (DD b c))] (ι := Programt × Cur) (fun i => True) (fun i => .agg [.sl CN i.1.decls, .sl ruleE i.1.rules]) (fun i => [(200, some (DD b i.2))]) := by
 refine AX_bodyC (n := 2) (k := 9) (cs := fun (i : Programt × Cur) => [.sl CN i.1.decls, .sl ruleE i.1.rules]) (T := fun (_ : Programt × Cur) => [(2, .one (.ptr 9 0))]) (Lf := fun (i : Programt × Cur) => ((9, some (.box [.sl CN i.1.decls, .sl ruleE i.1.rules])) :: [(200, some (DD b i.2))])) (L' := fun (i : Programt × Cur) => [(200, some (DD b i.2))]) Tryz.func9 J J Tryz.ntmps9 J Tryz.results9 (fun _ => rfl) (fun _ => rfl) (by kernel_rfl) (fun _ => rfl) (fun _ => rfl) (fun (_ : Programt × Cur) => ⟨O, (by repeat (first | exact trivial | refine ⟨⟨_, J, BLe.rf⟩, ?_⟩)), (Af J), J⟩) ?_
 refine AW_of_AV (AK (A6 (A9 (AO (Aw (.agg #[.slice none 0 0, .slice none 0 0]) 100 J (by kernel_rfl) J J J J) (AQ (AK (A6 (A9 (AO (A0 J J) ?_)))))))))
 refine AN_x (L := [(200, some (DD b c))]) J J J (program_x b c hb) J J (fun _ => rfl) (fun _ => rfl) ⟨J, O⟩ (fun _ => rfl) ?_
 rintro ⟨x7, c7⟩ g7
 try dsimp only at g7
 try dsimp only
 obtain ⟨ds7, rs7⟩ := x7
 dsimp only at g7 ⊢
 refine AO (Aw (.agg #[.slice none 0 0, .slice none 0 0]) 101 J (by kernel_rfl) J J J J) (AO (Ap 2 J J J J (by kernel_rfl) J J J) (AQ (AK (A6 (A9 (AO (A0 J J) ?_))))))
 have d9 := Cj b c7 (n := 24) (by decide)
 refine AO (Aj J J J (C5 b c7 hb 24) J J J J) (AO (A1 J J) (AQ (AK (AK (A6 (A9 (AO (Ao 1 1 J J J (by kernel_rfl) J) (AO (A4 J J J (by kernel_rfl) J) (AO (Ax 42 4 J J J (by kernel_rfl)) ?_)))))))))
 refine BG (AR J J J) (fun b13 h13 => ?_)
 refine AO (A0 J J) ?_
 cases b13
 rotate_left
 · try simp only [tdy] at h13
   refine Bz J J J J (Bz J J J J (Bz J J J J (Bz J J J J (AO (AJ J J J) (AQ (D1 J (AK (EJ (Dl 302 J Fz) ?_))))))))
   refine A6 (A9 (AO (Au 2 J J J (by kernel_rfl) J J) (AO (Ap 2 J J J J (by kernel_rfl) J J J) (AQ (A6 (BD 301 100 0 J J J J ?_))))))
   refine BD 302 100 1 J J J J ?_
   refine AU ?_
   refine ⟨⟨⟨_, _⟩, _⟩, ?_, rn [(9, 100)], by exact ⟨⟨⟨_, J, VLe.rf⟩, O⟩, ⟨⟨_, J, by first | exact BLe.rf | exact BLe.box (by repeat (first | exact trivial | refine ⟨by first | exact CLe.rf | exact CLe.nil, ?_⟩))⟩, ⟨_, J, BLe.rf⟩, O⟩, Af J, J⟩⟩
   trivial
 try simp only [tdy] at h13
 refine FH J J (Ao 0 0 J J J (by kernel_rfl) J) (FH J J (A4 J J J (by kernel_rfl) J) (FH J J (Ax 51 3 J J J (by kernel_rfl)) ?_))
 refine AN_gb J J (AR J J J) (fun b18 h18 => ?_)
 refine AO (AD J J J) (AQ ?_)
 cases b18
 rotate_left
 · try simp only [tdy] at h18
   refine D1 J (AK (EJ (Dl 302 J Fz) ?_))
   refine A6 (A9 (AO (Au 2 J J J (by kernel_rfl) J J) (AO (Ap 2 J J J J (by kernel_rfl) J J J) (AQ (A6 (BD 301 100 0 J J J J ?_))))))
   refine BD 302 100 1 J J J J ?_
   refine AU ?_
   refine ⟨⟨⟨_, _⟩, _⟩, ?_, rn [(9, 100)], by exact ⟨⟨⟨_, J, VLe.rf⟩, O⟩, ⟨⟨_, J, by first | exact BLe.rf | exact BLe.box (by repeat (first | exact trivial | refine ⟨by first | exact CLe.rf | exact CLe.nil, ?_⟩))⟩, ⟨_, J, BLe.rf⟩, O⟩, Af J, J⟩⟩
   trivial
 try simp only [tdy] at h18
 refine Ba J (A6 (AP (AK (A6 (A9 (AO (A0 J J) (AO (Ao 1 1 J J J (by kernel_rfl) J) (AO (A4 J J J (by kernel_rfl) J) (AO (Ax 42 4 J J J (by kernel_rfl)) ?_)))))))))
 have d25 := Cj b (AY b c7 24).2 (n := (rs7.length : Int)) (by omega)
 refine AO (Aj J J J (C5 b (AY b c7 24).2 hb (rs7.length : Int)) J J J J) (AO (A1 J J) (AQ (AK (AK ?_))))
 refine place_of (v := (AY b (AY b c7 24).2 (rs7.length : Int)).1) (n := rs7.length) (by omega) ?_
 intro ix hix hxl
 have hrl := rule_sizes g7 hxl
 have hdl := (program_sizes g7).1
 refine A6 (A9 (AO (A0 J J) ?_))
 refine BG (AR J J J) (fun b27 h27 => ?_)
 refine AQ ?_
 cases b27
 rotate_left
 · try simp only [tdy] at h27
   refine D1 J (A6 (Bw J (Az (Ao 0 0 J J J (by kernel_rfl) J) (Az (A4 J J J (by kernel_rfl) J) (Az (A0 J J) (Az (Aj J J J (text_c b (AY b (AY b c7 24).2 (rs7.length : Int)).2 hb) J J J J) ?_))))))
   refine Az (Ar 3 0 J J J J (by kernel_rfl) J J (by omega)) ?_
   refine Az (Ay 1 1 J J J (by kernel_rfl) J) ?_
   refine Az (DW ({(ds7[0]'(by omega)) with name := (dText b (AY b (AY b c7 24).2 (rs7.length : Int)).2).1} : Declt) (A := [.c (.int .i64 (ds7[0]'(by omega)).kind)]) (B := [.c (.string (ds7[0]'(by omega)).name)]) (C := [.c (.int .i64 (ds7[0]'(by omega)).arity)]) J J J J (by kernel_rfl) J J J FitL.rf J J (by omega) J J J J) ?_
   refine Bj (by kernel_rfl) ?_
   refine AK (AK (A6 (A9 (AO (A0 J J) ?_))))
   refine BG (AR J J J) (fun b35 h35 => ?_)
   refine AQ ?_
   cases b35
   rotate_left
   · exfalso; simp at h35; omega
   try simp only [tdy] at h35
   refine Ba J (A6 (AP (AK (AK (A6 (A9 (AO (A0 J J) ?_)))))))
   refine BG (AR J J J) (fun b43 h43 => ?_)
   refine AQ ?_
   cases b43
   rotate_left
   · exfalso; simp at h43; omega
   try simp only [tdy] at h43
   refine Ba J (A6 (AP (AK (AK (A6 (A9 (AO (A0 J J) ?_)))))))
   refine BG (AR J J J) (fun b51 h51 => ?_)
   refine AQ ?_
   cases b51
   rotate_left
   · exfalso; simp at h51; omega
   try simp only [tdy] at h51
   refine Ba J (A6 (AP (AK (AK (A6 (A9 (AO (A0 J J) ?_)))))))
   refine BG (AR J J J) (fun b60 h60 => ?_)
   refine AQ ?_
   cases b60
   rotate_left
   · exfalso; simp at h60; omega
   try simp only [tdy] at h60
   refine Ba J (A6 (AP (AK (AK (A6 (A9 (AO (A0 J J) ?_)))))))
   refine BG (AR J J J) (fun b73 h73 => ?_)
   refine AQ ?_
   cases b73
   rotate_left
   · exfalso; simp at h73; omega
   try simp only [tdy] at h73
   refine Ba J (A6 (AP (AK (AK (A6 (A9 (AO (A0 J J) ?_)))))))
   refine BG (AR J J J) (fun b91 h91 => ?_)
   refine AO (A0 J J) ?_
   cases b91
   rotate_left
   · exfalso; simp at h91; omega
   try simp only [tdy] at h91
   refine Bz J J J J (Bz J J J J (Bz J J J J (Bz J J J J (Bz J J J J (Bz J J J J (Bz J J J J (Bz J J J J (AO (AD J J J) (AQ (Ba J (A6 (AP (AK (AK (A6 (A9 (AO (A0 J J) ?_)))))))))))))))))
   refine BG (AR J J J) (fun b113 h113 => ?_)
   refine AO (A0 J J) ?_
   cases b113
   rotate_left
   · exfalso; simp at h113; omega
   try simp only [tdy] at h113
   refine Bz J J J J (Bz J J J J (Bz J J J J (Bz J J J J (Bz J J J J (Bz J J J J (Bz J J J J (Bz J J J J (AO (AD J J J) (AQ (Ba J (A6 (AP (AK (AK (A6 (A9 (AO (A0 J J) ?_)))))))))))))))))
   refine BG (AR J J J) (fun b144 h144 => ?_)
   refine AQ ?_
   cases b144
   rotate_left
   · exfalso; simp at h144; omega
   try simp only [tdy] at h144
   refine Ba J (A6 (AP (AK (AK (A6 (A9 (AO (A0 J J) ?_)))))))
   refine BG (AR J J J) (fun b163 h163 => ?_)
   refine AQ ?_
   cases b163
   rotate_left
   · exfalso; simp at h163; omega
   try simp only [tdy] at h163
   refine Ba J (A6 (AP (AK (AK (EJ (Dl 302 J Fz) ?_)))))
   refine A6 (A9 (AO (A0 J J) ?_))
   refine BG (AR J J J) (fun b182 h182 => ?_)
   refine AQ ?_
   cases b182
   rotate_left
   · exfalso; simp at h182; omega
   try simp only [tdy] at h182
   refine Ba J (A6 (AP (AK (AK (A6 (A9 (AO (A0 J J) ?_)))))))
   refine BG (AR J J J) (fun b201 h201 => ?_)
   refine AQ ?_
   cases b201
   rotate_left
   · exfalso; simp at h201; omega
   try simp only [tdy] at h201
   refine Ba J (A6 (AP (AK (A6 (A9 (AO (Au 2 J J J (by kernel_rfl) J J) (AO (Ap 2 J J J J (by kernel_rfl) J J J) (AQ (A6 (BD 301 100 0 J J J J ?_))))))))))
   refine BD 302 100 1 J J J J ?_
   refine AU ?_
   refine ⟨⟨⟨_, _⟩, _⟩, ?_, rn [(9, 100)], by exact ⟨⟨⟨_, J, VLe.rf⟩, O⟩, ⟨⟨_, J, by first | exact BLe.rf | exact BLe.box (by repeat (first | exact trivial | refine ⟨by first | exact CLe.rf | exact CLe.nil, ?_⟩))⟩, ⟨_, J, BLe.rf⟩, O⟩, Af J, J⟩⟩
   trivial
 try simp only [tdy] at h27
 refine Ba J (A6 (AP (AK (AK (A6 (A9 (AO (A0 J J) ?_)))))))
 refine BG (AR J J J) (fun b35 h35 => ?_)
 refine AQ ?_
 cases b35
 rotate_left
 · try simp only [tdy] at h35
   refine D1 J (A6 (Bw J (Az (Ao 0 0 J J J (by kernel_rfl) J) (Az (A4 J J J (by kernel_rfl) J) (Az (A0 J J) (Az (Aj J J J (raw_c b (AY b (AY b c7 24).2 (rs7.length : Int)).2 hb) J J J J) ?_))))))
   refine Az (Ar 3 0 J J J J (by kernel_rfl) J J (by omega)) ?_
   refine Az (Ay 0 0 J J J (by kernel_rfl) J) ?_
   refine Az (DW ({(ds7[0]'(by omega)) with kind := (IL b (AY b (AY b c7 24).2 (rs7.length : Int)).2).1} : Declt) (A := []) (B := [.c (.int .i64 (ds7[0]'(by omega)).kind)]) (C := [.c (.string (ds7[0]'(by omega)).name), .c (.int .i64 (ds7[0]'(by omega)).arity)]) J J J J (by kernel_rfl) J J J FitL.rf J J (by omega) J J J J) ?_
   refine Bj (by kernel_rfl) ?_
   refine AK (AK (A6 (A9 (AO (A0 J J) ?_))))
   refine BG (AR J J J) (fun b43 h43 => ?_)
   refine AQ ?_
   cases b43
   rotate_left
   · exfalso; simp at h43; omega
   try simp only [tdy] at h43
   refine Ba J (A6 (AP (AK (AK (A6 (A9 (AO (A0 J J) ?_)))))))
   refine BG (AR J J J) (fun b51 h51 => ?_)
   refine AQ ?_
   cases b51
   rotate_left
   · exfalso; simp at h51; omega
   try simp only [tdy] at h51
   refine Ba J (A6 (AP (AK (AK (A6 (A9 (AO (A0 J J) ?_)))))))
   refine BG (AR J J J) (fun b60 h60 => ?_)
   refine AQ ?_
   cases b60
   rotate_left
   · exfalso; simp at h60; omega
   try simp only [tdy] at h60
   refine Ba J (A6 (AP (AK (AK (A6 (A9 (AO (A0 J J) ?_)))))))
   refine BG (AR J J J) (fun b73 h73 => ?_)
   refine AQ ?_
   cases b73
   rotate_left
   · exfalso; simp at h73; omega
   try simp only [tdy] at h73
   refine Ba J (A6 (AP (AK (AK (A6 (A9 (AO (A0 J J) ?_)))))))
   refine BG (AR J J J) (fun b91 h91 => ?_)
   refine AO (A0 J J) ?_
   cases b91
   rotate_left
   · exfalso; simp at h91; omega
   try simp only [tdy] at h91
   refine Bz J J J J (Bz J J J J (Bz J J J J (Bz J J J J (Bz J J J J (Bz J J J J (Bz J J J J (Bz J J J J (AO (AD J J J) (AQ (Ba J (A6 (AP (AK (AK (A6 (A9 (AO (A0 J J) ?_)))))))))))))))))
   refine BG (AR J J J) (fun b113 h113 => ?_)
   refine AO (A0 J J) ?_
   cases b113
   rotate_left
   · exfalso; simp at h113; omega
   try simp only [tdy] at h113
   refine Bz J J J J (Bz J J J J (Bz J J J J (Bz J J J J (Bz J J J J (Bz J J J J (Bz J J J J (Bz J J J J (AO (AD J J J) (AQ (Ba J (A6 (AP (AK (AK (A6 (A9 (AO (A0 J J) ?_)))))))))))))))))
   refine BG (AR J J J) (fun b144 h144 => ?_)
   refine AQ ?_
   cases b144
   rotate_left
   · exfalso; simp at h144; omega
   try simp only [tdy] at h144
   refine Ba J (A6 (AP (AK (AK (A6 (A9 (AO (A0 J J) ?_)))))))
   refine BG (AR J J J) (fun b163 h163 => ?_)
   refine AQ ?_
   cases b163
   rotate_left
   · exfalso; simp at h163; omega
   try simp only [tdy] at h163
   refine Ba J (A6 (AP (AK (AK (EJ (Dl 302 J Fz) ?_)))))
   refine A6 (A9 (AO (A0 J J) ?_))
   refine BG (AR J J J) (fun b182 h182 => ?_)
   refine AQ ?_
   cases b182
   rotate_left
   · exfalso; simp at h182; omega
   try simp only [tdy] at h182
   refine Ba J (A6 (AP (AK (AK (A6 (A9 (AO (A0 J J) ?_)))))))
   refine BG (AR J J J) (fun b201 h201 => ?_)
   refine AQ ?_
   cases b201
   rotate_left
   · exfalso; simp at h201; omega
   try simp only [tdy] at h201
   refine Ba J (A6 (AP (AK (A6 (A9 (AO (Au 2 J J J (by kernel_rfl) J J) (AO (Ap 2 J J J J (by kernel_rfl) J J J) (AQ (A6 (BD 301 100 0 J J J J ?_))))))))))
   refine BD 302 100 1 J J J J ?_
   refine AU ?_
   refine ⟨⟨⟨_, _⟩, _⟩, ?_, rn [(9, 100)], by exact ⟨⟨⟨_, J, VLe.rf⟩, O⟩, ⟨⟨_, J, by first | exact BLe.rf | exact BLe.box (by repeat (first | exact trivial | refine ⟨by first | exact CLe.rf | exact CLe.nil, ?_⟩))⟩, ⟨_, J, BLe.rf⟩, O⟩, Af J, J⟩⟩
   trivial
 try simp only [tdy] at h35
 refine Ba J (A6 (AP (AK (AK (A6 (A9 (AO (A0 J J) ?_)))))))
 refine BG (AR J J J) (fun b43 h43 => ?_)
 refine AQ ?_
 cases b43
 rotate_left
 · try simp only [tdy] at h43
   refine D1 J (A6 (Bw J (Az (Ao 0 0 J J J (by kernel_rfl) J) (Az (A4 J J J (by kernel_rfl) J) (Az (A0 J J) (Az (Aj J J J (raw_c b (AY b (AY b c7 24).2 (rs7.length : Int)).2 hb) J J J J) ?_))))))
   refine Az (Ar 3 0 J J J J (by kernel_rfl) J J (by omega)) ?_
   refine Az (Ay 2 2 J J J (by kernel_rfl) J) ?_
   refine Az (DW ({(ds7[0]'(by omega)) with arity := (IL b (AY b (AY b c7 24).2 (rs7.length : Int)).2).1} : Declt) (A := [.c (.int .i64 (ds7[0]'(by omega)).kind), .c (.string (ds7[0]'(by omega)).name)]) (B := [.c (.int .i64 (ds7[0]'(by omega)).arity)]) (C := []) J J J J (by kernel_rfl) J J J FitL.rf J J (by omega) J J J J) ?_
   refine Bj (by kernel_rfl) ?_
   refine AK (AK (A6 (A9 (AO (A0 J J) ?_))))
   refine BG (AR J J J) (fun b51 h51 => ?_)
   refine AQ ?_
   cases b51
   rotate_left
   · exfalso; simp at h51; omega
   try simp only [tdy] at h51
   refine Ba J (A6 (AP (AK (AK (A6 (A9 (AO (A0 J J) ?_)))))))
   refine BG (AR J J J) (fun b60 h60 => ?_)
   refine AQ ?_
   cases b60
   rotate_left
   · exfalso; simp at h60; omega
   try simp only [tdy] at h60
   refine Ba J (A6 (AP (AK (AK (A6 (A9 (AO (A0 J J) ?_)))))))
   refine BG (AR J J J) (fun b73 h73 => ?_)
   refine AQ ?_
   cases b73
   rotate_left
   · exfalso; simp at h73; omega
   try simp only [tdy] at h73
   refine Ba J (A6 (AP (AK (AK (A6 (A9 (AO (A0 J J) ?_)))))))
   refine BG (AR J J J) (fun b91 h91 => ?_)
   refine AO (A0 J J) ?_
   cases b91
   rotate_left
   · exfalso; simp at h91; omega
   try simp only [tdy] at h91
   refine Bz J J J J (Bz J J J J (Bz J J J J (Bz J J J J (Bz J J J J (Bz J J J J (Bz J J J J (Bz J J J J (AO (AD J J J) (AQ (Ba J (A6 (AP (AK (AK (A6 (A9 (AO (A0 J J) ?_)))))))))))))))))
   refine BG (AR J J J) (fun b113 h113 => ?_)
   refine AO (A0 J J) ?_
   cases b113
   rotate_left
   · exfalso; simp at h113; omega
   try simp only [tdy] at h113
   refine Bz J J J J (Bz J J J J (Bz J J J J (Bz J J J J (Bz J J J J (Bz J J J J (Bz J J J J (Bz J J J J (AO (AD J J J) (AQ (Ba J (A6 (AP (AK (AK (A6 (A9 (AO (A0 J J) ?_)))))))))))))))))
   refine BG (AR J J J) (fun b144 h144 => ?_)
   refine AQ ?_
   cases b144
   rotate_left
   · exfalso; simp at h144; omega
   try simp only [tdy] at h144
   refine Ba J (A6 (AP (AK (AK (A6 (A9 (AO (A0 J J) ?_)))))))
   refine BG (AR J J J) (fun b163 h163 => ?_)
   refine AQ ?_
   cases b163
   rotate_left
   · exfalso; simp at h163; omega
   try simp only [tdy] at h163
   refine Ba J (A6 (AP (AK (AK (EJ (Dl 302 J Fz) ?_)))))
   refine A6 (A9 (AO (A0 J J) ?_))
   refine BG (AR J J J) (fun b182 h182 => ?_)
   refine AQ ?_
   cases b182
   rotate_left
   · exfalso; simp at h182; omega
   try simp only [tdy] at h182
   refine Ba J (A6 (AP (AK (AK (A6 (A9 (AO (A0 J J) ?_)))))))
   refine BG (AR J J J) (fun b201 h201 => ?_)
   refine AQ ?_
   cases b201
   rotate_left
   · exfalso; simp at h201; omega
   try simp only [tdy] at h201
   refine Ba J (A6 (AP (AK (A6 (A9 (AO (Au 2 J J J (by kernel_rfl) J J) (AO (Ap 2 J J J J (by kernel_rfl) J J J) (AQ (A6 (BD 301 100 0 J J J J ?_))))))))))
   refine BD 302 100 1 J J J J ?_
   refine AU ?_
   refine ⟨⟨⟨_, _⟩, _⟩, ?_, rn [(9, 100)], by exact ⟨⟨⟨_, J, VLe.rf⟩, O⟩, ⟨⟨_, J, by first | exact BLe.rf | exact BLe.box (by repeat (first | exact trivial | refine ⟨by first | exact CLe.rf | exact CLe.nil, ?_⟩))⟩, ⟨_, J, BLe.rf⟩, O⟩, Af J, J⟩⟩
   trivial
 try simp only [tdy] at h43
 refine Ba J (A6 (AP (AK (AK (A6 (A9 (AO (A0 J J) ?_)))))))
 refine BG (AR J J J) (fun b51 h51 => ?_)
 refine AQ ?_
 cases b51
 rotate_left
 · try simp only [tdy] at h51
   refine D1 J (A6 (Bw J (Az (Ao 1 1 J J J (by kernel_rfl) J) (Az (A4 J J J (by kernel_rfl) J) (Az (A0 J J) (Az (A0 J J) (Az (Aj J J J (raw_c b (AY b (AY b c7 24).2 (rs7.length : Int)).2 hb) J J J J) ?_)))))))
   refine Az (Ar 4 ix J J J J (by kernel_rfl) J hix (by omega)) ?_
   refine Az (Ay 0 0 J J J (by kernel_rfl) J) ?_
   refine Az (DW ({(rs7[ix]'(by omega)) with kind := (IL b (AY b (AY b c7 24).2 (rs7.length : Int)).2).1} : Rulet) (A := []) (B := [.c (.int .i64 (rs7[ix]'(by omega)).kind)]) (C := [.c (.string (rs7[ix]'(by omega)).head.name), .en (Fg 46 Bx) (rs7[ix]'(by omega)).head.args, .en (Fg 48 DI) (rs7[ix]'(by omega)).body]) J J J J (by kernel_rfl) J J J FitL.rf J J (by omega) J J J J) ?_
   refine Bj (by kernel_rfl) ?_
   refine AK (AK (A6 (A9 (AO (A0 J J) ?_))))
   refine BG (AR J J J) (fun b60 h60 => ?_)
   refine AQ ?_
   cases b60
   rotate_left
   · exfalso; simp at h60; omega
   try simp only [tdy] at h60
   refine Ba J (A6 (AP (AK (AK (A6 (A9 (AO (A0 J J) ?_)))))))
   refine BG (AR J J J) (fun b73 h73 => ?_)
   refine AQ ?_
   cases b73
   rotate_left
   · exfalso; simp at h73; omega
   try simp only [tdy] at h73
   refine Ba J (A6 (AP (AK (AK (A6 (A9 (AO (A0 J J) ?_)))))))
   refine BG (AR J J J) (fun b91 h91 => ?_)
   refine AO (A0 J J) ?_
   cases b91
   rotate_left
   · exfalso; simp at h91; omega
   try simp only [tdy] at h91
   refine Bz J J J J (Bz J J J J (Bz J J J J (Bz J J J J (Bz J J J J (Bz J J J J (Bz J J J J (Bz J J J J (AO (AD J J J) (AQ (Ba J (A6 (AP (AK (AK (A6 (A9 (AO (A0 J J) ?_)))))))))))))))))
   refine BG (AR J J J) (fun b113 h113 => ?_)
   refine AO (A0 J J) ?_
   cases b113
   rotate_left
   · exfalso; simp at h113; omega
   try simp only [tdy] at h113
   refine Bz J J J J (Bz J J J J (Bz J J J J (Bz J J J J (Bz J J J J (Bz J J J J (Bz J J J J (Bz J J J J (AO (AD J J J) (AQ (Ba J (A6 (AP (AK (AK (A6 (A9 (AO (A0 J J) ?_)))))))))))))))))
   refine BG (AR J J J) (fun b144 h144 => ?_)
   refine AQ ?_
   cases b144
   rotate_left
   · exfalso; simp at h144; omega
   try simp only [tdy] at h144
   refine Ba J (A6 (AP (AK (AK (A6 (A9 (AO (A0 J J) ?_)))))))
   refine BG (AR J J J) (fun b163 h163 => ?_)
   refine AQ ?_
   cases b163
   rotate_left
   · exfalso; simp at h163; omega
   try simp only [tdy] at h163
   refine Ba J (A6 (AP (AK (AK (EJ (Dl 302 J Fz) ?_)))))
   refine A6 (A9 (AO (A0 J J) ?_))
   refine BG (AR J J J) (fun b182 h182 => ?_)
   refine AQ ?_
   cases b182
   rotate_left
   · exfalso; simp at h182; omega
   try simp only [tdy] at h182
   refine Ba J (A6 (AP (AK (AK (A6 (A9 (AO (A0 J J) ?_)))))))
   refine BG (AR J J J) (fun b201 h201 => ?_)
   refine AQ ?_
   cases b201
   rotate_left
   · exfalso; simp at h201; omega
   try simp only [tdy] at h201
   refine Ba J (A6 (AP (AK (A6 (A9 (AO (Au 2 J J J (by kernel_rfl) J J) (AO (Ap 2 J J J J (by kernel_rfl) J J J) (AQ (A6 (BD 301 100 0 J J J J ?_))))))))))
   refine BD 302 100 1 J J J J ?_
   refine AU ?_
   refine ⟨⟨⟨_, _⟩, _⟩, ?_, rn [(9, 100)], by exact ⟨⟨⟨_, J, VLe.rf⟩, O⟩, ⟨⟨_, J, by first | exact BLe.rf | exact BLe.box (by repeat (first | exact trivial | refine ⟨by first | exact CLe.rf | exact CLe.nil, ?_⟩))⟩, ⟨_, J, BLe.rf⟩, O⟩, Af J, J⟩⟩
   trivial
 try simp only [tdy] at h51
 refine Ba J (A6 (AP (AK (AK (A6 (A9 (AO (A0 J J) ?_)))))))
 refine BG (AR J J J) (fun b60 h60 => ?_)
 refine AQ ?_
 cases b60
 rotate_left
 · try simp only [tdy] at h60
   refine D1 J (A6 (Bw J (Az (Ao 1 1 J J J (by kernel_rfl) J) (Az (A4 J J J (by kernel_rfl) J) (Az (A0 J J) (Az (CR (E := 9) (e := DM) [.const (.string ⟨#[110, 111, 116]⟩), .const (.string ⟨#[97]⟩), .const (.string ⟨#[]⟩), .const (.string ⟨#[102, 111, 114, 119, 97, 114, 100]⟩)] (headWords) J J J J J J J J FitL.rf J J J (by kernel_rfl)) (Az (A0 J J) ?_)))))))
   have d66 := Cj b (AY b (AY b c7 24).2 (rs7.length : Int)).2 (n := 4) (by decide)
   refine Az (Aj J J J (C5 b (AY b (AY b c7 24).2 (rs7.length : Int)).2 hb 4) J J J J) ?_
   refine Az (Am 9 1 ((AY b (AY b (AY b c7 24).2 (rs7.length : Int)).2 4).1.toNat) J J J (by kernel_rfl) J (by omega) (by rw [headWords_len]; omega)) ?_
   refine Az (BW J J (by kernel_rfl) J) ?_
   refine Az (Ar 4 ix J J J J (by kernel_rfl) J hix (by omega)) ?_
   refine Az (Ay 1 1 J J J (by kernel_rfl) J) (Az (Ay 0 1 J J J (by kernel_rfl) J) ?_)
   refine Az (DW ({(rs7[ix]'(by omega)) with head := {(rs7[ix]'(by omega)).head with name := (headWords[(AY b (AY b (AY b c7 24).2 (rs7.length : Int)).2 4).1.toNat]'(by rw [headWords_len]; omega))}} : Rulet) (A := [.c (.int .i64 (rs7[ix]'(by omega)).kind)]) (B := [.c (.string (rs7[ix]'(by omega)).head.name)]) (C := [.en (Fg 46 Bx) (rs7[ix]'(by omega)).head.args, .en (Fg 48 DI) (rs7[ix]'(by omega)).body]) J J J J (by kernel_rfl) J J J FitL.rf J J (by omega) J J J J) ?_
   refine Bj (by kernel_rfl) ?_
   refine AK (AK (A6 (A9 (AO (A0 J J) ?_))))
   refine BG (AR J J J) (fun b73 h73 => ?_)
   refine AQ ?_
   cases b73
   rotate_left
   · exfalso; simp at h73; omega
   try simp only [tdy] at h73
   refine Ba J (A6 (AP (AK (AK (A6 (A9 (AO (A0 J J) ?_)))))))
   refine BG (AR J J J) (fun b91 h91 => ?_)
   refine AO (A0 J J) ?_
   cases b91
   rotate_left
   · exfalso; simp at h91; omega
   try simp only [tdy] at h91
   refine Bz J J J J (Bz J J J J (Bz J J J J (Bz J J J J (Bz J J J J (Bz J J J J (Bz J J J J (Bz J J J J (AO (AD J J J) (AQ (Ba J (A6 (AP (AK (AK (A6 (A9 (AO (A0 J J) ?_)))))))))))))))))
   refine BG (AR J J J) (fun b113 h113 => ?_)
   refine AO (A0 J J) ?_
   cases b113
   rotate_left
   · exfalso; simp at h113; omega
   try simp only [tdy] at h113
   refine Bz J J J J (Bz J J J J (Bz J J J J (Bz J J J J (Bz J J J J (Bz J J J J (Bz J J J J (Bz J J J J (AO (AD J J J) (AQ (Ba J (A6 (AP (AK (AK (A6 (A9 (AO (A0 J J) ?_)))))))))))))))))
   refine BG (AR J J J) (fun b144 h144 => ?_)
   refine AQ ?_
   cases b144
   rotate_left
   · exfalso; simp at h144; omega
   try simp only [tdy] at h144
   refine Ba J (A6 (AP (AK (AK (A6 (A9 (AO (A0 J J) ?_)))))))
   refine BG (AR J J J) (fun b163 h163 => ?_)
   refine AQ ?_
   cases b163
   rotate_left
   · exfalso; simp at h163; omega
   try simp only [tdy] at h163
   refine Ba J (A6 (AP (AK (AK (EJ (Dl 302 J Fz) ?_)))))
   refine A6 (A9 (AO (A0 J J) ?_))
   refine BG (AR J J J) (fun b182 h182 => ?_)
   refine AQ ?_
   cases b182
   rotate_left
   · exfalso; simp at h182; omega
   try simp only [tdy] at h182
   refine Ba J (A6 (AP (AK (AK (A6 (A9 (AO (A0 J J) ?_)))))))
   refine BG (AR J J J) (fun b201 h201 => ?_)
   refine AQ ?_
   cases b201
   rotate_left
   · exfalso; simp at h201; omega
   try simp only [tdy] at h201
   refine Ba J (A6 (AP (AK (A6 (A9 (AO (Au 2 J J J (by kernel_rfl) J J) (AO (Ap 2 J J J J (by kernel_rfl) J J J) (AQ (A6 (BD 301 100 0 J J J J ?_))))))))))
   refine BD 302 100 1 J J J J ?_
   refine AU ?_
   refine ⟨⟨⟨_, _⟩, _⟩, ?_, rn [(9, 100)], by exact ⟨⟨⟨_, J, VLe.rf⟩, O⟩, ⟨⟨_, J, by first | exact BLe.rf | exact BLe.box (by repeat (first | exact trivial | refine ⟨by first | exact CLe.rf | exact CLe.nil, ?_⟩))⟩, ⟨_, J, BLe.rf⟩, O⟩, Af J, J⟩⟩
   trivial
 try simp only [tdy] at h60
 refine Ba J (A6 (AP (AK (AK (A6 (A9 (AO (A0 J J) ?_)))))))
 refine BG (AR J J J) (fun b73 h73 => ?_)
 refine AQ ?_
 cases b73
 rotate_left
 · try simp only [tdy] at h73
   refine D1 J ?_
   refine AV_keep [0, 2, 3, 4, 5] [100, 101, 200, 301, 302] ?_ ?_
   · exact Ag (by repeat first | exact trivial | refine Ah J (by first | exact VLe.rf | exact A7 (by dsimp only; omega)) ?_) (by repeat first | exact trivial | refine Ai J (by first | exact BLe.rf | exact BLe.box AllC.rf | exact BLe.arr (by exact J)) ?_) J J
   refine AV_open (B := Old.bl) (ys := DQ rs7 ix (rs7[ix]'(by omega))) 302 103 9000 J (IZ (i := ix) (by omega)) (List.ne_nil_of_length_pos (by omega)) J (fun _ => Ch ..) J J J Gz (by repeat (first | exact trivial | exact J | refine ⟨?_, ?_⟩)) (by repeat (first | exact trivial | exact J | refine ⟨?_, ?_⟩)) (fun V => ?_)
   refine A6 (Bw J (Az (Ao 1 1 J J J (by kernel_rfl) J) (Az (A4 J J J (by kernel_rfl) J) (Az (A0 J J) (Az (Ao 1 1 J J J (by kernel_rfl) J) (Az (A4 J J J (by kernel_rfl) J) (Az (A0 J J) ?_)))))))
   refine Az (Ar 4 ix J J J J (by kernel_rfl) J hix (by rw [Ch]; omega)) ?_
   refine Az (Ay 1 1 J J J (by kernel_rfl) J) (Az (Ay 1 2 J J J (by kernel_rfl) J) ?_)
   refine Az (Gm (tx := 9000) J J J (by kernel_rfl) (by rw [Ch]; omega) (Ii _) J J) ?_
   refine Az (Al [.string ⟨#[]⟩, .int .i64 0, .string ⟨#[]⟩] [(0, 1), (1, 2)] J (by kernel_rfl) J J J J J) (Az (Aq Bx 46 [.tmp 84] ([(⟨⟨#[120]⟩, ⟨0, ⟨#[]⟩⟩⟩ : Termt)]) 104 J J J J J J J J FitL.rf J J J J J J (by kernel_rfl)) ?_)
   refine Az (B9 105 J J J J J J J J (by kernel_rfl) (by simp only [List.length_append, List.length_cons, List.length_nil]; omega)) ?_
   refine Az (Ar 4 ix J J J J (by kernel_rfl) J hix (by rw [Ch]; omega)) ?_
   refine Az (Ay 1 1 J J J (by kernel_rfl) J) (Az (Ay 1 2 J J J (by kernel_rfl) J) ?_)
   refine Az (DW (withArgs (rs7[ix]'(by omega)) ((rs7[ix]'(by omega)).head.args ++ [(⟨⟨#[120]⟩, ⟨0, ⟨#[]⟩⟩⟩ : Termt)]), none, none) (A := [.c (.int .i64 (rs7[ix]'(by omega)).kind), .c (.string (rs7[ix]'(by omega)).head.name)]) (B := [.en exactE V]) (C := [.sl DI (rs7[ix]'(by omega)).body]) J J J J (by kernel_rfl) J J J FitL.rf J J (by rw [Ch]; omega) (H6 _) J J J) ?_
   refine Bj (by kernel_rfl) ?_
   refine AK (AK (A6 (A9 (AO (A0 J J) ?_))))
   refine BG (AR J J J) (fun b91 h91 => ?_)
   refine AO (A0 J J) ?_
   cases b91
   rotate_left
   · exfalso; simp at h91; omega
   try simp only [tdy] at h91
   refine Bz J J J J (Bz J J J J (Bz J J J J (Bz J J J J (Bz J J J J (Bz J J J J (Bz J J J J (Bz J J J J (AO (AD J J J) (AQ (Ba J (A6 (AP (AK (AK (A6 (A9 (AO (A0 J J) ?_)))))))))))))))))
   refine BG (AR J J J) (fun b113 h113 => ?_)
   refine AO (A0 J J) ?_
   cases b113
   rotate_left
   · exfalso; simp at h113; omega
   try simp only [tdy] at h113
   refine Bz J J J J (Bz J J J J (Bz J J J J (Bz J J J J (Bz J J J J (Bz J J J J (Bz J J J J (Bz J J J J (AO (AD J J J) (AQ (Ba J (A6 (AP (AK (AK (A6 (A9 (AO (A0 J J) ?_)))))))))))))))))
   refine BG (AR J J J) (fun b144 h144 => ?_)
   refine AQ ?_
   cases b144
   rotate_left
   · exfalso; simp at h144; omega
   try simp only [tdy] at h144
   refine Ba J (A6 (AP (AK (AK (A6 (A9 (AO (A0 J J) ?_)))))))
   refine BG (AR J J J) (fun b163 h163 => ?_)
   refine AQ ?_
   cases b163
   rotate_left
   · exfalso; simp at h163; omega
   try simp only [tdy] at h163
   refine Ba J (A6 (AP (AK (AK (EJ (Dl 302 J (recode_H Ih)) ?_)))))
   refine A6 (A9 (AO (A0 J J) ?_))
   refine BG (AR J J J) (fun b182 h182 => ?_)
   refine AQ ?_
   cases b182
   rotate_left
   · exfalso; simp at h182; omega
   try simp only [tdy] at h182
   refine Ba J (A6 (AP (AK (AK (A6 (A9 (AO (A0 J J) ?_)))))))
   refine BG (AR J J J) (fun b201 h201 => ?_)
   refine AQ ?_
   cases b201
   rotate_left
   · exfalso; simp at h201; omega
   try simp only [tdy] at h201
   refine Ba J (A6 (AP (AK (A6 (A9 (AO (Au 2 J J J (by kernel_rfl) J J) (AO (Ap 2 J J J J (by kernel_rfl) J J J) (AQ (A6 (BD 301 100 0 J J J J ?_))))))))))
   refine BD 302 100 1 J J J J ?_
   refine AU ?_
   refine ⟨⟨⟨_, _⟩, _⟩, ?_, rn [(9, 100)], by exact ⟨⟨⟨_, J, VLe.rf⟩, O⟩, ⟨⟨_, J, by first | exact BLe.rf | exact BLe.box (by repeat (first | exact trivial | refine ⟨by first | exact CLe.rf | exact CLe.nil, ?_⟩))⟩, ⟨_, J, BLe.rf⟩, O⟩, Af J, J⟩⟩
   trivial
 try simp only [tdy] at h73
 refine Ba J (A6 (AP (AK (AK ?_))))
 by_cases q91 : (AY b c7 24).1 = 6
 · refine AV_keep [0, 2, 3, 4, 5] [100, 101, 200, 301, 302] ?_ ?_
   · exact Ag (by repeat first | exact trivial | refine Ah J (by first | exact VLe.rf | exact A7 (by dsimp only; omega)) ?_) (by repeat first | exact trivial | refine Ai J (by first | exact BLe.rf | exact BLe.box AllC.rf | exact BLe.arr (by exact J)) ?_) J J
   refine AV_open (B := Old.bl) (ys := DB rs7 ix (rs7[ix]'(by omega))) 302 106 9000 J (opened_body (i := ix) (by omega)) (List.ne_nil_of_length_pos (by omega)) J (fun _ => C4 ..) J J J Gz (by repeat (first | exact trivial | exact J | refine ⟨?_, ?_⟩)) (by repeat (first | exact trivial | exact J | refine ⟨?_, ?_⟩)) (fun V => ?_)
   refine A6 (A9 (AO (A0 J J) ?_))
   refine BG (AR J J J) (fun b91 h91 => ?_)
   refine AO (A0 J J) ?_
   cases b91
   · exfalso; simp at h91; omega
   try simp only [tdy] at h91
   refine FH J J (Ao 1 1 J J J (by kernel_rfl) J) (FH J J (A4 J J J (by kernel_rfl) J) (FH J J (A0 J J) ?_))
   refine FH J J (Ar 4 ix J J J J (by kernel_rfl) J hix (by rw [C4]; omega)) ?_
   refine FH J J (Ay 3 3 J J J (by kernel_rfl) J) ?_
   refine FH J J (Gm (tx := 9000) J J J (by kernel_rfl) (by rw [C4]; omega) (Fn _) J J) ?_
   refine FH J J (Ax 48 10 J J J (by kernel_rfl)) ?_
   refine AN_gb J J (CC J J J) (fun b100 h100 => ?_)
   refine AO (AJ J J J) (AQ ?_)
   cases b100
   · try simp only [tdy] at h100
     refine Ba J (A6 (AP (AK (AK (A6 (A9 (AO (A0 J J) ?_)))))))
     refine BG (AR J J J) (fun b113 h113 => ?_)
     refine AO (A0 J J) ?_
     cases b113
     rotate_left
     · exfalso; simp at h113; omega
     try simp only [tdy] at h113
     refine Bz J J J J (Bz J J J J (Bz J J J J (Bz J J J J (Bz J J J J (Bz J J J J (Bz J J J J (Bz J J J J (AO (AD J J J) (AQ (Ba J (A6 (AP (AK (AK (A6 (A9 (AO (A0 J J) ?_)))))))))))))))))
     refine BG (AR J J J) (fun b144 h144 => ?_)
     refine AQ ?_
     cases b144
     rotate_left
     · exfalso; simp at h144; omega
     try simp only [tdy] at h144
     refine Ba J (A6 (AP (AK (AK (A6 (A9 (AO (A0 J J) ?_)))))))
     refine BG (AR J J J) (fun b163 h163 => ?_)
     refine AQ ?_
     cases b163
     rotate_left
     · exfalso; simp at h163; omega
     try simp only [tdy] at h163
     refine Ba J (A6 (AP (AK (AK (EJ (II (e := ruleE) 302 106 9000 J J J J GX) ?_)))))
     refine A6 (A9 (AO (A0 J J) ?_))
     refine BG (AR J J J) (fun b182 h182 => ?_)
     refine AQ ?_
     cases b182
     rotate_left
     · exfalso; simp at h182; omega
     try simp only [tdy] at h182
     refine Ba J (A6 (AP (AK (AK (A6 (A9 (AO (A0 J J) ?_)))))))
     refine BG (AR J J J) (fun b201 h201 => ?_)
     refine AQ ?_
     cases b201
     rotate_left
     · exfalso; simp at h201; omega
     try simp only [tdy] at h201
     refine Ba J (A6 (AP (AK (A6 (A9 (AO (Au 2 J J J (by kernel_rfl) J J) (AO (Ap 2 J J J J (by kernel_rfl) J J J) (AQ (A6 (BD 301 100 0 J J J J ?_))))))))))
     refine BD 302 100 1 J J J J ?_
     refine AU ?_
     refine ⟨⟨⟨_, _⟩, _⟩, ?_, rn [(9, 100)], by exact ⟨⟨⟨_, J, VLe.rf⟩, O⟩, ⟨⟨_, J, by first | exact BLe.rf | exact BLe.box (by repeat (first | exact trivial | refine ⟨by first | exact CLe.rf | exact CLe.nil, ?_⟩))⟩, ⟨_, J, BLe.rf⟩, O⟩, Af J, J⟩⟩
     trivial
   try simp only [tdy] at h100
   refine D1 J (A6 (Bw J (Az (Ao 1 1 J J J (by kernel_rfl) J) (Az (A4 J J J (by kernel_rfl) J) (Az (A0 J J) ?_)))))
   refine Az (Ar 4 ix J J J J (by kernel_rfl) J hix (by rw [C4]; omega)) ?_
   refine Az (Ay 3 3 J J J (by kernel_rfl) J) ?_
   refine Az (Gm (tx := 9000) J J J (by kernel_rfl) (by rw [C4]; omega) (Fn _) J J) ?_
   refine Az (A0 J J) (Az (Aj J J J (raw_c b (AY b (AY b c7 24).2 (rs7.length : Int)).2 hb) J J J J) ?_)
   refine Az (Ar 10 0 J J J J (by kernel_rfl) J J (by omega)) ?_
   refine Az (Ay 0 0 J J J (by kernel_rfl) J) ?_
   refine Az (DW ({((rs7[ix]'(by omega)).body[0]'(by omega)) with kind := (IL b (AY b (AY b c7 24).2 (rs7.length : Int)).2).1} : Litt) (A := (litC ((rs7[ix]'(by omega)).body[0]'(by omega))).take 0) (B := [.c (.int .i64 ((rs7[ix]'(by omega)).body[0]'(by omega)).kind)]) (C := (litC ((rs7[ix]'(by omega)).body[0]'(by omega))).drop 1) J J J J (by kernel_rfl) J J J FitL.rf J J (by omega) J J J J) ?_
   refine Bj (by kernel_rfl) ?_
   refine AK (AK (A6 (A9 (AO (A0 J J) ?_))))
   refine BG (AR J J J) (fun b113 h113 => ?_)
   refine AO (A0 J J) ?_
   cases b113
   rotate_left
   · exfalso; simp at h113; omega
   try simp only [tdy] at h113
   refine Bz J J J J (Bz J J J J (Bz J J J J (Bz J J J J (Bz J J J J (Bz J J J J (Bz J J J J (Bz J J J J (AO (AD J J J) (AQ (Ba J (A6 (AP (AK (AK (A6 (A9 (AO (A0 J J) ?_)))))))))))))))))
   refine BG (AR J J J) (fun b144 h144 => ?_)
   refine AQ ?_
   cases b144
   rotate_left
   · exfalso; simp at h144; omega
   try simp only [tdy] at h144
   refine Ba J (A6 (AP (AK (AK (A6 (A9 (AO (A0 J J) ?_)))))))
   refine BG (AR J J J) (fun b163 h163 => ?_)
   refine AQ ?_
   cases b163
   rotate_left
   · exfalso; simp at h163; omega
   try simp only [tdy] at h163
   refine Ba J (A6 (AP (AK (AK (EJ (II (e := ruleE) 302 106 9000 J J J J GX) ?_)))))
   refine A6 (A9 (AO (A0 J J) ?_))
   refine BG (AR J J J) (fun b182 h182 => ?_)
   refine AQ ?_
   cases b182
   rotate_left
   · exfalso; simp at h182; omega
   try simp only [tdy] at h182
   refine Ba J (A6 (AP (AK (AK (A6 (A9 (AO (A0 J J) ?_)))))))
   refine BG (AR J J J) (fun b201 h201 => ?_)
   refine AQ ?_
   cases b201
   rotate_left
   · exfalso; simp at h201; omega
   try simp only [tdy] at h201
   refine Ba J (A6 (AP (AK (A6 (A9 (AO (Au 2 J J J (by kernel_rfl) J J) (AO (Ap 2 J J J J (by kernel_rfl) J J J) (AQ (A6 (BD 301 100 0 J J J J ?_))))))))))
   refine BD 302 100 1 J J J J ?_
   refine AU ?_
   refine ⟨⟨⟨_, _⟩, _⟩, ?_, rn [(9, 100)], by exact ⟨⟨⟨_, J, VLe.rf⟩, O⟩, ⟨⟨_, J, by first | exact BLe.rf | exact BLe.box (by repeat (first | exact trivial | refine ⟨by first | exact CLe.rf | exact CLe.nil, ?_⟩))⟩, ⟨_, J, BLe.rf⟩, O⟩, Af J, J⟩⟩
   trivial
 · refine A6 (A9 (AO (A0 J J) ?_))
   refine BG (AR J J J) (fun b91 h91 => ?_)
   refine AO (A0 J J) ?_
   cases b91
   rotate_left
   · exfalso; simp at h91; omega
   try simp only [tdy] at h91
   refine Bz J J J J (Bz J J J J (Bz J J J J (Bz J J J J (Bz J J J J (Bz J J J J (Bz J J J J (Bz J J J J (AO (AD J J J) (AQ (Ba J (A6 (AP (AK (AK ?_))))))))))))))
   by_cases q113 : (AY b c7 24).1 = 7
   · refine AV_keep [0, 2, 3, 4, 5] [100, 101, 200, 301, 302] ?_ ?_
     · exact Ag (by repeat first | exact trivial | refine Ah J (by first | exact VLe.rf | exact A7 (by dsimp only; omega)) ?_) (by repeat first | exact trivial | refine Ai J (by first | exact BLe.rf | exact BLe.box AllC.rf | exact BLe.arr (by exact J)) ?_) J J
     refine AV_open (B := Old.bl) (ys := DB rs7 ix (rs7[ix]'(by omega))) 302 107 9000 J (opened_body (i := ix) (by omega)) (List.ne_nil_of_length_pos (by omega)) J (fun _ => C4 ..) J J J Gz (by repeat (first | exact trivial | exact J | refine ⟨?_, ?_⟩)) (by repeat (first | exact trivial | exact J | refine ⟨?_, ?_⟩)) (fun V => ?_)
     refine A6 (A9 (AO (A0 J J) ?_))
     refine BG (AR J J J) (fun b113 h113 => ?_)
     refine AO (A0 J J) ?_
     cases b113
     · exfalso; simp at h113; omega
     try simp only [tdy] at h113
     refine FH J J (Ao 1 1 J J J (by kernel_rfl) J) (FH J J (A4 J J J (by kernel_rfl) J) (FH J J (A0 J J) ?_))
     refine FH J J (Ar 4 ix J J J J (by kernel_rfl) J hix (by rw [C4]; omega)) ?_
     refine FH J J (Ay 3 3 J J J (by kernel_rfl) J) ?_
     refine FH J J (Gm (tx := 9000) J J J (by kernel_rfl) (by rw [C4]; omega) (Fn _) J J) ?_
     refine FH J J (Ax 48 10 J J J (by kernel_rfl)) ?_
     refine AN_gb J J (CC J J J) (fun b122 h122 => ?_)
     refine AO (AJ J J J) (AQ ?_)
     cases b122
     · try simp only [tdy] at h122
       refine Ba J (A6 (AP (AK (AK (A6 (A9 (AO (A0 J J) ?_)))))))
       refine BG (AR J J J) (fun b144 h144 => ?_)
       refine AQ ?_
       cases b144
       rotate_left
       · exfalso; simp at h144; omega
       try simp only [tdy] at h144
       refine Ba J (A6 (AP (AK (AK (A6 (A9 (AO (A0 J J) ?_)))))))
       refine BG (AR J J J) (fun b163 h163 => ?_)
       refine AQ ?_
       cases b163
       rotate_left
       · exfalso; simp at h163; omega
       try simp only [tdy] at h163
       refine Ba J (A6 (AP (AK (AK (EJ (II (e := ruleE) 302 107 9000 J J J J GX) ?_)))))
       refine A6 (A9 (AO (A0 J J) ?_))
       refine BG (AR J J J) (fun b182 h182 => ?_)
       refine AQ ?_
       cases b182
       rotate_left
       · exfalso; simp at h182; omega
       try simp only [tdy] at h182
       refine Ba J (A6 (AP (AK (AK (A6 (A9 (AO (A0 J J) ?_)))))))
       refine BG (AR J J J) (fun b201 h201 => ?_)
       refine AQ ?_
       cases b201
       rotate_left
       · exfalso; simp at h201; omega
       try simp only [tdy] at h201
       refine Ba J (A6 (AP (AK (A6 (A9 (AO (Au 2 J J J (by kernel_rfl) J J) (AO (Ap 2 J J J J (by kernel_rfl) J J J) (AQ (A6 (BD 301 100 0 J J J J ?_))))))))))
       refine BD 302 100 1 J J J J ?_
       refine AU ?_
       refine ⟨⟨⟨_, _⟩, _⟩, ?_, rn [(9, 100)], by exact ⟨⟨⟨_, J, VLe.rf⟩, O⟩, ⟨⟨_, J, by first | exact BLe.rf | exact BLe.box (by repeat (first | exact trivial | refine ⟨by first | exact CLe.rf | exact CLe.nil, ?_⟩))⟩, ⟨_, J, BLe.rf⟩, O⟩, Af J, J⟩⟩
       trivial
     try simp only [tdy] at h122
     refine D1 J (A6 (Bw J (Az (Ao 1 1 J J J (by kernel_rfl) J) (Az (A4 J J J (by kernel_rfl) J) (Az (A0 J J) ?_)))))
     refine Az (Ar 4 ix J J J J (by kernel_rfl) J hix (by rw [C4]; omega)) ?_
     refine Az (Ay 3 3 J J J (by kernel_rfl) J) ?_
     refine Az (Gm (tx := 9000) J J J (by kernel_rfl) (by rw [C4]; omega) (Fn _) J J) ?_
     refine Az (Ao 1 1 J J J (by kernel_rfl) J) (Az (A4 J J J (by kernel_rfl) J) (Az (A0 J J) ?_))
     refine Az (Ar 4 ix J J J J (by kernel_rfl) J hix (by rw [C4]; omega)) ?_
     refine Az (Ay 3 3 J J J (by kernel_rfl) J) ?_
     refine Az (Gm (tx := 9000) J J J (by kernel_rfl) (by rw [C4]; omega) (Fn _) J J) ?_
     refine Az (Ax 48 10 J J J (by kernel_rfl)) ?_
     refine Az (HO J J J (IntWalk.i64_in _ (by omega))) ?_
     refine Az (A0 J J) ?_
     have d139 := Cj b (AY b (AY b c7 24).2 (rs7.length : Int)).2 (n := 7) (by decide)
     refine Az (Aj J J J (C5 b (AY b (AY b c7 24).2 (rs7.length : Int)).2 hb 7) J J J J) ?_
     refine Az (HO J J J (IntWalk.i64_in _ (by omega))) ?_
     refine Az (Ar 10 ((rs7[ix]'(by omega)).body.length - 1) J J J J (by kernel_rfl) J (by omega) (by omega)) ?_
     refine Az (Ay 3 3 J J J (by kernel_rfl) J) ?_
     refine Az (DW ({((rs7[ix]'(by omega)).body[(rs7[ix]'(by omega)).body.length - 1]'(by omega)) with op := ((AY b (AY b (AY b c7 24).2 (rs7.length : Int)).2 7).1 - 1)} : Litt) (A := (litC ((rs7[ix]'(by omega)).body[(rs7[ix]'(by omega)).body.length - 1]'(by omega))).take 3) (B := [.c (.int .i64 ((rs7[ix]'(by omega)).body[(rs7[ix]'(by omega)).body.length - 1]'(by omega)).op)]) (C := (litC ((rs7[ix]'(by omega)).body[(rs7[ix]'(by omega)).body.length - 1]'(by omega))).drop 4) J J J J (by kernel_rfl) J J J FitL.rf J J (by omega) J J J J) ?_
     refine Bj (by kernel_rfl) ?_
     refine AK (AK (A6 (A9 (AO (A0 J J) ?_))))
     refine BG (AR J J J) (fun b144 h144 => ?_)
     refine AQ ?_
     cases b144
     rotate_left
     · exfalso; simp at h144; omega
     try simp only [tdy] at h144
     refine Ba J (A6 (AP (AK (AK (A6 (A9 (AO (A0 J J) ?_)))))))
     refine BG (AR J J J) (fun b163 h163 => ?_)
     refine AQ ?_
     cases b163
     rotate_left
     · exfalso; simp at h163; omega
     try simp only [tdy] at h163
     refine Ba J (A6 (AP (AK (AK (EJ (II (e := ruleE) 302 107 9000 J J J J GX) ?_)))))
     refine A6 (A9 (AO (A0 J J) ?_))
     refine BG (AR J J J) (fun b182 h182 => ?_)
     refine AQ ?_
     cases b182
     rotate_left
     · exfalso; simp at h182; omega
     try simp only [tdy] at h182
     refine Ba J (A6 (AP (AK (AK (A6 (A9 (AO (A0 J J) ?_)))))))
     refine BG (AR J J J) (fun b201 h201 => ?_)
     refine AQ ?_
     cases b201
     rotate_left
     · exfalso; simp at h201; omega
     try simp only [tdy] at h201
     refine Ba J (A6 (AP (AK (A6 (A9 (AO (Au 2 J J J (by kernel_rfl) J J) (AO (Ap 2 J J J J (by kernel_rfl) J J J) (AQ (A6 (BD 301 100 0 J J J J ?_))))))))))
     refine BD 302 100 1 J J J J ?_
     refine AU ?_
     refine ⟨⟨⟨_, _⟩, _⟩, ?_, rn [(9, 100)], by exact ⟨⟨⟨_, J, VLe.rf⟩, O⟩, ⟨⟨_, J, by first | exact BLe.rf | exact BLe.box (by repeat (first | exact trivial | refine ⟨by first | exact CLe.rf | exact CLe.nil, ?_⟩))⟩, ⟨_, J, BLe.rf⟩, O⟩, Af J, J⟩⟩
     trivial
   · refine A6 (A9 (AO (A0 J J) ?_))
     refine BG (AR J J J) (fun b113 h113 => ?_)
     refine AO (A0 J J) ?_
     cases b113
     rotate_left
     · exfalso; simp at h113; omega
     try simp only [tdy] at h113
     refine Bz J J J J (Bz J J J J (Bz J J J J (Bz J J J J (Bz J J J J (Bz J J J J (Bz J J J J (Bz J J J J (AO (AD J J J) (AQ (Ba J (A6 (AP (AK (AK (A6 (A9 (AO (A0 J J) ?_)))))))))))))))))
     refine BG (AR J J J) (fun b144 h144 => ?_)
     refine AQ ?_
     cases b144
     rotate_left
     · try simp only [tdy] at h144
       refine D1 J ?_
       refine AV_keep [0, 2, 3, 4, 5] [100, 101, 200, 301, 302] ?_ ?_
       · exact Ag (by repeat first | exact trivial | refine Ah J (by first | exact VLe.rf | exact A7 (by dsimp only; omega)) ?_) (by repeat first | exact trivial | refine Ai J (by first | exact BLe.rf | exact BLe.box AllC.rf | exact BLe.arr (by exact J)) ?_) J J
       refine AV_open (B := Old.bl) (ys := DQ rs7 ix (rs7[ix]'(by omega))) 302 108 9000 J (IZ (i := ix) (by omega)) (List.ne_nil_of_length_pos (by omega)) J (fun _ => Ch ..) J J J Gz (by repeat (first | exact trivial | exact J | refine ⟨?_, ?_⟩)) (by repeat (first | exact trivial | exact J | refine ⟨?_, ?_⟩)) (fun V => ?_)
       refine A6 (Bw J (Az (Ao 1 1 J J J (by kernel_rfl) J) (Az (A4 J J J (by kernel_rfl) J) (Az (A0 J J) (Az (Ao 1 1 J J J (by kernel_rfl) J) (Az (A4 J J J (by kernel_rfl) J) (Az (A0 J J) ?_)))))))
       refine Az (Ar 4 ix J J J J (by kernel_rfl) J hix (by rw [Ch]; omega)) ?_
       refine Az (Ay 1 1 J J J (by kernel_rfl) J) (Az (Ay 1 2 J J J (by kernel_rfl) J) ?_)
       refine Az (Gm (tx := 9000) J J J (by kernel_rfl) (by rw [Ch]; omega) (Ii _) J J) ?_
       refine Az (Al [.int .i64 0, .string ⟨#[]⟩] [(0, 1), (1, 1)] J (by kernel_rfl) J J J J J) (Az (Al [.string ⟨#[]⟩, .int .i64 0, .string ⟨#[]⟩] [(0, 1), (1, 2)] J (by kernel_rfl) J J J J J) (Az (Aq Bx 46 [.tmp 156] ([(⟨⟨#[]⟩, ⟨0, ⟨#[110, 111, 116]⟩⟩⟩ : Termt)]) 109 J J J J J J J J FitL.rf J J J J J J (by kernel_rfl)) ?_))
       refine Az (B9 110 J J J J J J J J (by kernel_rfl) (by simp only [List.length_append, List.length_cons, List.length_nil]; omega)) ?_
       refine Az (Ar 4 ix J J J J (by kernel_rfl) J hix (by rw [Ch]; omega)) ?_
       refine Az (Ay 1 1 J J J (by kernel_rfl) J) (Az (Ay 1 2 J J J (by kernel_rfl) J) ?_)
       refine Az (DW (withArgs (rs7[ix]'(by omega)) ((rs7[ix]'(by omega)).head.args ++ [(⟨⟨#[]⟩, ⟨0, ⟨#[110, 111, 116]⟩⟩⟩ : Termt)]), none, none) (A := [.c (.int .i64 (rs7[ix]'(by omega)).kind), .c (.string (rs7[ix]'(by omega)).head.name)]) (B := [.en exactE V]) (C := [.sl DI (rs7[ix]'(by omega)).body]) J J J J (by kernel_rfl) J J J FitL.rf J J (by rw [Ch]; omega) (H6 _) J J J) ?_
       refine Bj (by kernel_rfl) ?_
       refine AK (AK (A6 (A9 (AO (A0 J J) ?_))))
       refine BG (AR J J J) (fun b163 h163 => ?_)
       refine AQ ?_
       cases b163
       rotate_left
       · exfalso; simp at h163; omega
       try simp only [tdy] at h163
       refine Ba J (A6 (AP (AK (AK (EJ (Dl 302 J (recode_H Ih)) ?_)))))
       refine A6 (A9 (AO (A0 J J) ?_))
       refine BG (AR J J J) (fun b182 h182 => ?_)
       refine AQ ?_
       cases b182
       rotate_left
       · exfalso; simp at h182; omega
       try simp only [tdy] at h182
       refine Ba J (A6 (AP (AK (AK (A6 (A9 (AO (A0 J J) ?_)))))))
       refine BG (AR J J J) (fun b201 h201 => ?_)
       refine AQ ?_
       cases b201
       rotate_left
       · exfalso; simp at h201; omega
       try simp only [tdy] at h201
       refine Ba J (A6 (AP (AK (A6 (A9 (AO (Au 2 J J J (by kernel_rfl) J J) (AO (Ap 2 J J J J (by kernel_rfl) J J J) (AQ (A6 (BD 301 100 0 J J J J ?_))))))))))
       refine BD 302 100 1 J J J J ?_
       refine AU ?_
       refine ⟨⟨⟨_, _⟩, _⟩, ?_, rn [(9, 100)], by exact ⟨⟨⟨_, J, VLe.rf⟩, O⟩, ⟨⟨_, J, by first | exact BLe.rf | exact BLe.box (by repeat (first | exact trivial | refine ⟨by first | exact CLe.rf | exact CLe.nil, ?_⟩))⟩, ⟨_, J, BLe.rf⟩, O⟩, Af J, J⟩⟩
       trivial
     try simp only [tdy] at h144
     refine Ba J (A6 (AP (AK (AK (A6 (A9 (AO (A0 J J) ?_)))))))
     refine BG (AR J J J) (fun b163 h163 => ?_)
     refine AQ ?_
     cases b163
     rotate_left
     · try simp only [tdy] at h163
       refine D1 J ?_
       refine AV_keep [0, 2, 3, 4, 5] [100, 101, 200, 301, 302] ?_ ?_
       · exact Ag (by repeat first | exact trivial | refine Ah J (by first | exact VLe.rf | exact A7 (by dsimp only; omega)) ?_) (by repeat first | exact trivial | refine Ai J (by first | exact BLe.rf | exact BLe.box AllC.rf | exact BLe.arr (by exact J)) ?_) J J
       refine AV_open (B := Old.bl) (ys := DQ rs7 ix (rs7[ix]'(by omega))) 302 111 9000 J (IZ (i := ix) (by omega)) (List.ne_nil_of_length_pos (by omega)) J (fun _ => Ch ..) J J J Gz (by repeat (first | exact trivial | exact J | refine ⟨?_, ?_⟩)) (by repeat (first | exact trivial | exact J | refine ⟨?_, ?_⟩)) (fun V => ?_)
       refine A6 (Bw J (Az (Ao 1 1 J J J (by kernel_rfl) J) (Az (A4 J J J (by kernel_rfl) J) (Az (A0 J J) (Az (Ao 1 1 J J J (by kernel_rfl) J) (Az (A4 J J J (by kernel_rfl) J) (Az (A0 J J) ?_)))))))
       refine Az (Ar 4 ix J J J J (by kernel_rfl) J hix (by rw [Ch]; omega)) ?_
       refine Az (Ay 1 1 J J J (by kernel_rfl) J) (Az (Ay 1 2 J J J (by kernel_rfl) J) ?_)
       refine Az (Gm (tx := 9000) J J J (by kernel_rfl) (by rw [Ch]; omega) (Ii _) J J) ?_
       refine Az (Al [.int .i64 0, .string ⟨#[]⟩] [(0, 1), (1, 1)] J (by kernel_rfl) J J J J J) (Az (Al [.string ⟨#[]⟩, .int .i64 0, .string ⟨#[]⟩] [(0, 1), (1, 2)] J (by kernel_rfl) J J J J J) (Az (Aq Bx 46 [.tmp 175] ([(⟨⟨#[88]⟩, ⟨1, ⟨#[]⟩⟩⟩ : Termt)]) 112 J J J J J J J J FitL.rf J J J J J J (by kernel_rfl)) ?_))
       refine Az (B9 113 J J J J J J J J (by kernel_rfl) (by simp only [List.length_append, List.length_cons, List.length_nil]; omega)) ?_
       refine Az (Ar 4 ix J J J J (by kernel_rfl) J hix (by rw [Ch]; omega)) ?_
       refine Az (Ay 1 1 J J J (by kernel_rfl) J) (Az (Ay 1 2 J J J (by kernel_rfl) J) ?_)
       refine Az (DW (withArgs (rs7[ix]'(by omega)) ((rs7[ix]'(by omega)).head.args ++ [(⟨⟨#[88]⟩, ⟨1, ⟨#[]⟩⟩⟩ : Termt)]), none, none) (A := [.c (.int .i64 (rs7[ix]'(by omega)).kind), .c (.string (rs7[ix]'(by omega)).head.name)]) (B := [.en exactE V]) (C := [.sl DI (rs7[ix]'(by omega)).body]) J J J J (by kernel_rfl) J J J FitL.rf J J (by rw [Ch]; omega) (H6 _) J J J) ?_
       refine Bj (by kernel_rfl) ?_
       refine AK (AK (EJ (Dl 302 J (recode_H Ih)) ?_))
       refine A6 (A9 (AO (A0 J J) ?_))
       refine BG (AR J J J) (fun b182 h182 => ?_)
       refine AQ ?_
       cases b182
       rotate_left
       · exfalso; simp at h182; omega
       try simp only [tdy] at h182
       refine Ba J (A6 (AP (AK (AK (A6 (A9 (AO (A0 J J) ?_)))))))
       refine BG (AR J J J) (fun b201 h201 => ?_)
       refine AQ ?_
       cases b201
       rotate_left
       · exfalso; simp at h201; omega
       try simp only [tdy] at h201
       refine Ba J (A6 (AP (AK (A6 (A9 (AO (Au 2 J J J (by kernel_rfl) J J) (AO (Ap 2 J J J J (by kernel_rfl) J J J) (AQ (A6 (BD 301 100 0 J J J J ?_))))))))))
       refine BD 302 100 1 J J J J ?_
       refine AU ?_
       refine ⟨⟨⟨_, _⟩, _⟩, ?_, rn [(9, 100)], by exact ⟨⟨⟨_, J, VLe.rf⟩, O⟩, ⟨⟨_, J, by first | exact BLe.rf | exact BLe.box (by repeat (first | exact trivial | refine ⟨by first | exact CLe.rf | exact CLe.nil, ?_⟩))⟩, ⟨_, J, BLe.rf⟩, O⟩, Af J, J⟩⟩
       trivial
     try simp only [tdy] at h163
     refine Ba J (A6 (AP (AK (AK (EJ (Dl 302 J Fz) ?_)))))
     refine A6 (A9 (AO (A0 J J) ?_))
     refine BG (AR J J J) (fun b182 h182 => ?_)
     refine AQ ?_
     cases b182
     · try simp only [tdy] at h182
       refine Ba J (A6 (AP (AK (AK (A6 (A9 (AO (A0 J J) ?_)))))))
       refine BG (AR J J J) (fun b201 h201 => ?_)
       refine AQ ?_
       cases b201
       · try simp only [tdy] at h201
         refine Ba J (A6 (AP (AK (A6 (A9 (AO (Au 2 J J J (by kernel_rfl) J J) (AO (Ap 2 J J J J (by kernel_rfl) J J J) (AQ (A6 (BD 301 100 0 J J J J ?_))))))))))
         refine BD 302 100 1 J J J J ?_
         refine AU ?_
         refine ⟨⟨⟨_, _⟩, _⟩, ?_, rn [(9, 100)], by exact ⟨⟨⟨_, J, VLe.rf⟩, O⟩, ⟨⟨_, J, by first | exact BLe.rf | exact BLe.box (by repeat (first | exact trivial | refine ⟨by first | exact CLe.rf | exact CLe.nil, ?_⟩))⟩, ⟨_, J, BLe.rf⟩, O⟩, Af J, J⟩⟩
         trivial
       try simp only [tdy] at h201
       refine D1 J (A6 (Bw J (Az (Ao 0 0 J J J (by kernel_rfl) J) (Az (A4 J J J (by kernel_rfl) J) (Az (Ao 0 0 J J J (by kernel_rfl) J) (Az (A4 J J J (by kernel_rfl) J) ?_))))))
       refine Az (Ar 3 0 J J J J (by kernel_rfl) J J (by omega)) ?_
       refine Az (x_oloadN (n := 3) J J J (by kernel_rfl) (by omega) J J) ?_
       refine Az (Aq CN 51 [.tmp 207] ([(ds7[0]'(by omega))]) 116 J J J J J J J J FitL.rf J J J J J J (by kernel_rfl)) ?_
       refine Az (B9 117 J J J J J J J J (by kernel_rfl) (by simp only [List.length_append, List.length_cons, List.length_nil]; omega)) ?_
       refine Az (Ao 0 0 J J J (by kernel_rfl) J) (Az (Ap 1 J J J J (by kernel_rfl) J J J) (Bj (by kernel_rfl) ?_))
       refine AK (A6 (A9 (AO (Au 2 J J J (by kernel_rfl) J J) (AO (Ap 2 J J J J (by kernel_rfl) J J J) (AQ (A6 (BD 117 100 0 J J J J ?_)))))))
       refine BD 302 100 1 J J J J ?_
       refine AU ?_
       refine ⟨⟨⟨_, _⟩, _⟩, ?_, rn [(9, 100)], by exact ⟨⟨⟨_, J, VLe.rf⟩, O⟩, ⟨⟨_, J, by first | exact BLe.rf | exact BLe.box (by repeat (first | exact trivial | refine ⟨by first | exact CLe.rf | exact CLe.nil, ?_⟩))⟩, ⟨_, J, BLe.rf⟩, O⟩, Af J, J⟩⟩
       trivial
     try simp only [tdy] at h182
     refine D1 J (A6 (AZ ?_))
     refine B8 (ι := {q : List Rulet × Cur // rs7.length ≤ (q.1).length}) (fun p => []) (fun p => [(200, some (DD b (p.1.2))), (302, some (.arr 42 ruleE (p.1.1) false))]) [0, 2, 3, 4, 5] [100, 101, 301] (fun p => 26 - (p.1.1).length) ⟨⟨rs7, (AY b (AY b c7 24).2 (rs7.length : Int)).2⟩, Nat.le_refl _⟩ (rn []) ?_ ?_
     exact Ag (by repeat first | exact trivial | refine Ah J (by first | exact VLe.rf | exact A7 (by dsimp only; omega)) ?_) (by repeat first | exact trivial | refine Ai J (by first | exact BLe.rf | exact BLe.box AllC.rf | exact BLe.arr (by exact J)) ?_) J J
     rintro ⟨⟨rq, cc⟩, hinv⟩
     dsimp only
     have hrq : rs7.length ≤ rq.length := hinv
     refine A8 (A8 (Bw J (Az (Ao 1 1 J J J (by kernel_rfl) J) (Az (A4 J J J (by kernel_rfl) J) (Az (Ax 42 4 J J J (by kernel_rfl)) (Az (A0 J J) ?_))))))
     have d187 := Cj b cc (n := 2) (by decide)
     refine Az (Aj J J J (C5 b cc hb 2) J J J J) ?_
     refine Az (Bl J J J (IntWalk.i64_in _ (by omega))) ?_
     refine Bd (BI J J J) (fun b189 h189 => ?_)
     refine Bj (by kernel_rfl) ?_
     cases b189
     rotate_left
     · try simp only [tdy] at h189
       refine A5 J (AP (AZ (Bw J (Az (Ao 1 1 J J J (by kernel_rfl) J) (Az (A4 J J J (by kernel_rfl) J) (Az (Ao 1 1 J J J (by kernel_rfl) J) (Az (A4 J J J (by kernel_rfl) J) (Az (A0 J J) ?_))))))))
       refine Az (Ar 4 ix J J J J (by kernel_rfl) J hix (by omega)) ?_
       refine Az (x_oloadN (n := 4) J J J (by kernel_rfl) (by omega) J J) ?_
       refine Az (Aq ruleE 42 [.tmp 196] ([(rq[ix]'(by omega))]) 114 J J J J J J J J FitL.rf J J J J J J (by kernel_rfl)) ?_
       refine Az (B9 115 J J J J J J J J (by kernel_rfl) (by simp only [List.length_append, List.length_cons, List.length_nil]; omega)) ?_
       refine Az (Ao 1 1 J J J (by kernel_rfl) J) (Az (Ap 1 J J J J (by kernel_rfl) J J J) (Bj (by kernel_rfl) ?_))
       refine ⟨⟨⟨_, _⟩, ?_⟩, rn [(302, 115)], by exact Ag (by repeat first | exact trivial | refine Ah J (by first | exact VLe.rf | exact A7 (by dsimp only; omega)) ?_) (by repeat first | exact trivial | refine Ai J (by first | exact BLe.rf | exact BLe.box AllC.rf | exact BLe.arr (by exact J)) ?_) J J, by dsimp only; simp only [List.length_append, List.length_cons, List.length_nil]; omega⟩
       dsimp only; simp only [List.length_append, List.length_cons, List.length_nil]; omega
     try simp only [tdy] at h189
     refine Bc J ?_
     refine Br (B2 ?_)
     refine AK (AK (A6 (A9 (AO (A0 J J) ?_))))
     refine BG (AR J J J) (fun b201 h201 => ?_)
     refine AQ ?_
     cases b201
     rotate_left
     · exfalso; simp at h201; omega
     try simp only [tdy] at h201
     refine Ba J (A6 (AP (AK (A6 (A9 (AO (Au 2 J J J (by kernel_rfl) J J) (AO (Ap 2 J J J J (by kernel_rfl) J J J) (AQ (A6 (BD 301 100 0 J J J J ?_))))))))))
     refine BD 302 100 1 J J J J ?_
     refine AU ?_
     refine ⟨⟨⟨_, _⟩, _⟩, ?_, rn [(9, 100)], by exact ⟨⟨⟨_, J, VLe.rf⟩, O⟩, ⟨⟨_, J, by first | exact BLe.rf | exact BLe.box (by repeat (first | exact trivial | refine ⟨by first | exact CLe.rf | exact CLe.nil, ?_⟩))⟩, ⟨_, J, BLe.rf⟩, O⟩, Af J, J⟩⟩
     trivial
end Go.Proofs.YtkemjhlbokldhaaGreat

namespace Go.Proofs.YtkemjhlbokldhaaGreat
open Go.RowKit
set_option linter.unusedVariables false
set_option linter.unusedSimpArgs false
set_option maxRecDepth 100000

set_option maxHeartbeats 4000000 in
theorem drawPP_x (b : List Int) (hb : b.length ≤ 1048576) : AX Tryz.prog 4 [.one (.sl (intE .u8) b)] [] (ι := Programt) (fun i => True) (fun i => .agg [.sl CN i.decls, .sl ruleE i.rules]) (fun i => []) := by
 refine AX_bodyC (n := 2) (k := 9) (cs := fun (i : Programt) => [.sl CN i.decls, .sl ruleE i.rules]) (T := fun (_ : Programt) => [(2, .one (.ptr 9 0))]) (Lf := fun (i : Programt) => ((9, some (.box [.sl CN i.decls, .sl ruleE i.rules])) :: [])) (L' := fun (i : Programt) => []) Tryz.func4 J J Tryz.ntmps4 J Tryz.results4 (fun _ => rfl) (fun _ => rfl) (by kernel_rfl) (fun _ => rfl) (fun _ => rfl) (fun (_ : Programt) => ⟨O, (by repeat (first | exact trivial | refine ⟨⟨_, J, BLe.rf⟩, ?_⟩)), (Af J), J⟩) ?_
 refine A8 (A9 (AO (Aw (.agg #[.slice none 0 0, .slice none 0 0]) 100 J (by kernel_rfl) J J J J) (AQ (A8 (A9 (AO (A0 J J) (AO (x_call1 J J J (new_c b hb) J J J J) (AO (A1 J J) (AQ (A8 (AW_old 200 J ?_)))))))))))
 intro inst
 refine A9 (AO (A0 J J) ?_)
 refine AN_x (L := [(200, some (DD b (dNew b)))]) J J J (any15_x b (dNew b) hb) J J (fun _ => rfl) (fun _ => rfl) ⟨J, O⟩ (fun _ => rfl) ?_
 rintro ⟨x11, c11⟩ g11
 try dsimp only at g11
 try dsimp only
 obtain ⟨ds11, rs11⟩ := x11
 dsimp only
 refine AO (Aw (.agg #[.slice none 0 0, .slice none 0 0]) 101 J (by kernel_rfl) J J J J) (AO (Ap 2 J J J J (by kernel_rfl) J J J) (AQ (A8 (A8 (A9 (AO (A0 J J) ?_))))))
 have d13 := Cj b c11 (n := 30) (by decide)
 refine AO (Aj J J J (C5 b c11 hb 30) J J J J) ?_
 refine BG (AR J J J) (fun b14 h14 => ?_)
 refine AO (A0 J J) ?_
 cases b14
 · try simp only [tdy] at h14
   refine Bz J J J J (Bz J J J J (Bz J J J J (Bz J J J J (AO (AD J J J) (AQ (Ab J (A8 (A9 (AO (Au 2 J J J (by kernel_rfl) J J) (AO (Ap 2 J J J J (by kernel_rfl) J J J) (AQ (AU ?_))))))))))))
   refine ⟨⟨_, _⟩, ?_, rn [(9, 100)], by exact ⟨⟨⟨_, J, VLe.rf⟩, O⟩, ⟨⟨_, J, by first | exact BLe.rf | exact BLe.box (by repeat (first | exact trivial | refine ⟨by first | exact CLe.rf | exact CLe.nil, ?_⟩))⟩, O⟩, Af J, J⟩⟩
   trivial
 try simp only [tdy] at h14
 refine FH J J (Ao 1 1 J J J (by kernel_rfl) J) (FH J J (A4 J J J (by kernel_rfl) J) (FH J J (Ak 42 4 J J (by kernel_rfl)) ?_))
 refine AN_gb J J (CC J J J) (fun b19 h19 => ?_)
 refine AO (AJ J J J) (AQ ?_)
 cases b19
 · try simp only [tdy] at h19
   refine Ab J (A8 (A9 (AO (Au 2 J J J (by kernel_rfl) J J) (AO (Ap 2 J J J J (by kernel_rfl) J J J) (AQ (AU ?_))))))
   refine ⟨⟨_, _⟩, ?_, rn [(9, 100)], by exact ⟨⟨⟨_, J, VLe.rf⟩, O⟩, ⟨⟨_, J, by first | exact BLe.rf | exact BLe.box (by repeat (first | exact trivial | refine ⟨by first | exact CLe.rf | exact CLe.nil, ?_⟩))⟩, O⟩, Af J, J⟩⟩
   trivial
 try simp only [tdy] at h19
 refine Ac J (A9 (AO (Al [.string ⟨#[]⟩, .slice none 0 0] [(0, 1), (1, 1)] J (by kernel_rfl) J J J J J) (AO (Al [.int .i64 0, .string ⟨#[]⟩, .slice none 0 0, .slice none 0 0] [(0, 1), (1, 2), (3, 1)] J (by kernel_rfl) J J J J J) (AO (Aw (.agg #[.int .i64 0, .string ⟨#[]⟩, .slice none 0 0, .slice none 0 0]) 102 J (by kernel_rfl) J J J J) (AO (Ap 4 J J J J (by kernel_rfl) J J J) (AQ (A8 (A8 (A9 (AO (A1 J J) (AQ (AZ (Be (T := 46) (e := Bx) 103 102 2 J J J J J ?_)))))))))))))
 refine B8 (ι := {q : Nat // q ≤ 6}) (fun p => [(6, .one (.c (.int .i64 (((p.1) : Int)))))]) (fun p => [(103, some (.arr 46 Bx (List.replicate (p.1) bigT) true))]) [2, 4, 5] [100, 101, 102, 200] (fun p => 6 - (p.1)) ⟨0, by omega⟩ (rn []) ?_ ?_
 exact Ag (by repeat first | exact trivial | refine Ah J (by first | exact VLe.rf | exact A7 (by dsimp only; omega)) ?_) (by repeat first | exact trivial | refine Ai J (by first | exact BLe.rf | exact BLe.box AllC.rf | exact BLe.arr (by first | rfl | exact List.replicate_succ'.symm)) ?_) J J
 rintro ⟨k, hinv⟩
 dsimp only
 have hk : k ≤ 6 := hinv
 refine A8 (A8 (A9 (AO (A0 J J) ?_)))
 refine BG (BI J J J) (fun b24 h24 => ?_)
 refine AQ ?_
 cases b24
 rotate_left
 · try simp only [tdy] at h24
   refine A5 J (AP (A8 (AZ (A9 (AO (Ao 1 1 J J J (by kernel_rfl) J) (AO (Ao 1 2 J J J (by kernel_rfl) J) (AO (A4 J J J (by kernel_rfl) J) (AO (Al [.int .i64 0, .string ⟨#[]⟩] [(0, 1), (1, 1)] J (by kernel_rfl) J J J J J) (AO (Al [.string ⟨#[]⟩, .int .i64 0, .string ⟨#[]⟩] [(0, 1), (1, 2)] J (by kernel_rfl) J J J J J) (AO (Aq Bx 46 [.tmp 31] ([bigT]) 104 J J J J J J J J FitL.rf J J J J J J (by kernel_rfl)) ?_))))))))))
   refine AO (B9 105 J J J J J J J J (by kernel_rfl) (by rw [List.length_replicate]; simp only [List.length_cons, List.length_nil]; omega)) ?_
   refine AO (Ao 1 1 J J J (by kernel_rfl) J) (AO (Ao 1 2 J J J (by kernel_rfl) J) (AO (Ap 1 J J J J (by kernel_rfl) J J J) (AQ (A9 (AO (A0 J J) ?_)))))
   refine AO (Bl J J J (IntWalk.i64_in _ (by omega))) ?_
   refine AO (A1 J J) (AQ ?_)
   refine ⟨⟨k + 1, by omega⟩, rn [(103, 105)], ?_, by dsimp only; omega⟩
   exact Ag (by repeat first | exact trivial | refine Ah J (by first | exact VLe.rf | exact A7 (by dsimp only; omega)) ?_) (by repeat first | exact trivial | refine Ai J (by first | exact BLe.rf | exact BLe.box AllC.rf | exact BLe.arr (by first | rfl | exact List.replicate_succ'.symm)) ?_) J J
 try simp only [tdy] at h24
 obtain rfl : k = 6 := by omega
 refine Bc J ?_
 refine Br (B2 ?_)
 refine A8 (A8 (BD 103 102 2 J J J J ?_))
 refine A9 (AO (A1 J J) (AQ (AZ (Be (T := 48) (e := DI) 106 102 3 J J J J J ?_))))
 refine AW_shallow 106 J ?_
 refine B8 (ι := {q : Nat // q ≤ 8}) (fun p => [(7, .one (.c (.int .i64 (((p.1) : Int)))))]) (fun p => [(106, some (.arr 48 DI (List.replicate (p.1) bigL) false))]) [2, 4, 5] [100, 101, 102, 200] (fun p => 8 - (p.1)) ⟨0, by omega⟩ (rn []) ?_ ?_
 exact Ag (by repeat first | exact trivial | refine Ah J (by first | exact VLe.rf | exact A7 (by dsimp only; omega)) ?_) (by repeat first | exact trivial | refine Ai J (by first | exact BLe.rf | exact BLe.box AllC.rf | exact BLe.arr (by first | rfl | exact List.replicate_succ'.symm)) ?_) J J
 rintro ⟨j, hinv⟩
 dsimp only
 have hj : j ≤ 8 := hinv
 refine A8 (A8 (A9 (AO (A0 J J) ?_)))
 refine BG (BI J J J) (fun b37 h37 => ?_)
 refine AQ ?_
 cases b37
 rotate_left
 · try simp only [tdy] at h37
   refine A5 J (AP (A8 (AZ (A9 (AO (Ao 3 3 J J J (by kernel_rfl) J) (AO (A4 J J J (by kernel_rfl) J) (AO (Ao 1 1 J J J (by kernel_rfl) J) (AO (Au 2 J J J (by kernel_rfl) J J) (AO (Al [.int .i64 0, .string ⟨#[]⟩, .slice none 0 0, .int .i64 0, .string ⟨#[]⟩, .int .i64 0, .string ⟨#[]⟩, .string ⟨#[]⟩, .int .i64 0, .string ⟨#[]⟩] [(0, 1), (1, 2), (3, 1), (4, 3), (7, 3)] J (by kernel_rfl) J J J J J) (AO (Aq DI 48 [.tmp 44] ([bigL]) 107 J J J J J J J J FitL.rf J J J J J J (by kernel_rfl)) ?_))))))))))
   refine AO (B9 108 J J J J J J J J (by kernel_rfl) (by rw [List.length_replicate]; simp only [List.length_cons, List.length_nil]; omega)) ?_
   refine AO (Ao 3 3 J J J (by kernel_rfl) J) (AO (Ap 1 J J J J (by kernel_rfl) J J J) (AQ (A9 (AO (A0 J J) ?_))))
   refine AO (Bl J J J (IntWalk.i64_in _ (by omega))) ?_
   refine AO (A1 J J) (AQ ?_)
   refine ⟨⟨j + 1, by omega⟩, rn [(106, 108)], ?_, by dsimp only; omega⟩
   exact Ag (by repeat first | exact trivial | refine Ah J (by first | exact VLe.rf | exact A7 (by dsimp only; omega)) ?_) (by repeat first | exact trivial | refine Ai J (by first | exact BLe.rf | exact BLe.box AllC.rf | exact BLe.arr (by first | rfl | exact List.replicate_succ'.symm)) ?_) J J
 try simp only [tdy] at h37
 obtain rfl : j = 8 := by omega
 refine Bc J ?_
 refine Br (B2 ?_)
 refine BD 106 102 3 J J J J ?_
 refine A9 (AO (Au 4 J J J (by kernel_rfl) J J) (AO (Au 4 J J J (by kernel_rfl) J J) (AO (Au 4 J J J (by kernel_rfl) J J) (AO (Au 4 J J J (by kernel_rfl) J J) (AO (Au 4 J J J (by kernel_rfl) J J) (AO (Au 4 J J J (by kernel_rfl) J J) (AO (Au 4 J J J (by kernel_rfl) J J) (AO (CR (E := 42) (e := ruleE) [.tmp 48, .tmp 49, .tmp 50, .tmp 51, .tmp 52, .tmp 53, .tmp 54] ([bigR, bigR, bigR, bigR, bigR, bigR, bigR]) J J J J J J J J FitL.rf J J J (by kernel_rfl)) (AO (Ao 1 1 J J J (by kernel_rfl) J) (AO (Ap 1 J J J J (by kernel_rfl) J J J) (AQ (A8 (A9 (AO (Au 2 J J J (by kernel_rfl) J J) (AO (Ap 2 J J J J (by kernel_rfl) J J J) (AQ (AU ?_)))))))))))))))))
 refine ⟨⟨_, _⟩, ?_, rn [(9, 100)], by exact ⟨⟨⟨_, J, VLe.rf⟩, O⟩, ⟨⟨_, J, by first | exact BLe.rf | exact BLe.box (by repeat (first | exact trivial | refine ⟨by first | exact CLe.rf | exact CLe.nil, ?_⟩))⟩, O⟩, Af J, J⟩⟩
 trivial
end Go.Proofs.YtkemjhlbokldhaaGreat

namespace Go.Proofs.YtkemjhlbokldhaaGreat
open Go.RowKit
set_option linter.unusedVariables false
set_option linter.unusedSimpArgs false
set_option maxRecDepth 100000

set_option maxHeartbeats 4000000 in
theorem pAtomI_c0 (tk : List Tokent) (e : Int) (st : PS) (hm : tk.length ≤ 1048576) (hi : st.i ≤ tk.length) : AC Tryz.prog 52 [.one (.ptr 200 0)] [(200, some (psB tk e st))] (.agg (atomO (Cd tk e st).1)) [(200, some (psB tk e (Cd tk e st).2)), (0, some (.arr 46 Bx (Cd tk e st).1.args true))] := by
 refine En (n := 2) (k := 9) (T := [(2, .one (.ptr 9 0))]) (Lf := ((9, some (.box (atomO (Cd tk e st).1))) :: [(200, some (psB tk e (Cd tk e st).2)), (0, some (.arr 46 Bx (Cd tk e st).1.args true))])) Tryz.func52 J J Tryz.ntmps52 J Tryz.results52 J J (by kernel_rfl) J J ⟨O, (by repeat (first | exact trivial | refine ⟨⟨_, J, BLe.rf⟩, ?_⟩)), (Af J), J⟩ ?_
 refine Aa (Az (Aw (.agg #[.string ⟨#[]⟩, .slice none 0 0]) 100 J (by kernel_rfl) J J J J) (Ad (Az (Al [.string ⟨#[]⟩, .slice none 0 0] [(0, 1), (1, 1)] J (by kernel_rfl) J J J J J) (Az (Aw (.agg #[.string ⟨#[]⟩, .slice none 0 0]) 101 J (by kernel_rfl) J J J J) (Az (Ap 2 J J J J (by kernel_rfl) J J J) (Ad (Az (A0 J J) (Az (Aj J J J (pName_c tk e st hm hi) J J J J) (Az (Ao 0 0 J J J (by kernel_rfl) J) (Az (Ap 1 J J J J (by kernel_rfl) J J J) (Ad (Az (A0 J J) (Az (Aj J J J (DL tk e (BK tk e st).2 hm (HS hi) ⟨#[40]⟩) J J J J) (A2 (A8 (Aa (Az (A0 J J) ?_)))))))))))))))))
 refine Dk (Aj J J J (Dg tk e (B7 tk e st) hm (open_le hi) ⟨#[41]⟩) J J J J) (fun b12 h12 => ?_)
 refine A2 ?_
 cases b12
 rotate_left
 · try simp only [tdy] at h12
   have hno := atomI_none h12
   have hlt := Ck h12
   refine A5 J (Aa (Az (A0 J J) (Az (AI J J J) (Az (Ao 1 1 J J J (by kernel_rfl) J) (Az (A4 J J J (by kernel_rfl) J) ?_)))))
   refine Az (Bl J J J (IntWalk.i64_in _ (by omega))) ?_
   refine Az (AI J J J) (Az (Ao 1 1 J J J (by kernel_rfl) J) (Az (Ap 1 J J J J (by kernel_rfl) J J J) (Ad (Az (Au 2 J J J (by kernel_rfl) J J) (Az (Ap 2 J J J J (by kernel_rfl) J J J) (A2 (Be (T := 46) (e := Bx) 102 100 1 J J J J J ?_)))))))
   refine AU ?_
   exact ⟨rn [(9, 100), (0, 102)], ⟨⟨⟨_, J, VLe.rf⟩, O⟩, ⟨⟨_, J, by first | exact BLe.rf | exact AE (by rw [hno]; first | done | rfl)⟩, ⟨_, J, by first | exact BLe.rf | exact AE (by rw [hno]; first | done | rfl)⟩, ⟨_, J, by first | exact BLe.rf | (refine BLe.arr ?_; rw [hno]; first | done | rfl)⟩, O⟩, ⟨⟨J, .inl nofun, fun _ _ => ⟨_, J⟩⟩, O⟩, J⟩⟩
 try simp only [tdy] at h12
 refine Ab J (A8 (AZ (Be (T := 46) (e := Bx) 103 101 1 J J J J J ?_)))
 refine B8 (ι := {q : PS × List Termt // ((q.1).i ≤ tk.length ∧ (q.2).length ≤ 6) ∧ Dp tk e (8 - (q.2).length) (q.1) (q.2) = Dp tk e 8 (B7 tk e st) []}) (fun p => []) (fun p => [(103, some (.arr 46 Bx (p.1.2) true)), (200, some (psB tk e (p.1.1)))]) [0, 2, 3] [100, 101] (fun p => 7 - (p.1.2).length) ⟨⟨B7 tk e st, []⟩, ⟨⟨open_le hi, by simp⟩, J⟩⟩ (rn []) ?_ ?_
 exact Ag (by repeat first | exact trivial | refine Ah J (by first | exact VLe.rf | exact A7 (by dsimp only; omega)) ?_) (by repeat first | exact trivial | refine Ai J (by first | exact BLe.rf | exact BLe.box AllC.rf | exact BLe.arr (by exact J)) ?_) J J
 rintro ⟨⟨st1, a⟩, hinv⟩
 dsimp only
 have hi1 : st1.i ≤ tk.length := hinv.1.1
 have hl : a.length ≤ 6 := hinv.1.2
 refine A8 (Aa (Az (A0 J J) (Az (AI J J J) (Az (Ao 3 3 J J J (by kernel_rfl) J) (Az (A4 J J J (by kernel_rfl) J) ?_)))))
 refine Bd (AR J J J) (fun b25 h25 => ?_)
 refine A2 ?_
 cases b25
 · try simp only [tdy] at h25
   have hi2 := hi1
   have hno := FE h12 (hinv.2.symm.trans (argsI_bad h25))
   refine Bc J ?_
   refine Br (B2 ?_)
   refine Aa (Az (A0 J J) (Az (Aj J J J (DL tk e _ hm hi2 ⟨#[41]⟩) J J J J) (Ad (Az (Au 2 J J J (by kernel_rfl) J J) (Az (Ap 2 J J J J (by kernel_rfl) J J J) (Ae ?_))))))
   exact ⟨rn [(9, 100), (0, 103)], ⟨⟨⟨_, J, VLe.rf⟩, O⟩, ⟨⟨_, J, by first | exact BLe.rf | exact AE (by rw [hno]; first | done | rfl)⟩, ⟨_, J, by first | exact BLe.rf | exact AE (by rw [hno]; first | done | rfl)⟩, ⟨_, J, by first | exact BLe.rf | (refine BLe.arr ?_; rw [hno]; first | done | rfl)⟩, O⟩, ⟨⟨J, .inl nofun, fun _ _ => ⟨_, J⟩⟩, O⟩, J⟩⟩
 try simp only [tdy] at h25
 refine A5 J (AP (AZ (A8 (Aa (Az (A0 J J) ?_)))))
 refine Dk (Aj J J J (pIsTerm_c tk e st1 hm hi1) J J J J) (fun b27 h27 => ?_)
 refine Az (A0 J J) ?_
 cases b27
 · try simp only [tdy] at h27
   have hnf : ¬ (BN (AA tk e st1) = true ∧ (a.length : Int) = 6) := fun q => by rw [h27] at q; cases q.1
   refine A3 J J J J (A3 J J J J (A3 J J J J (A3 J J J J (Az (AD J J J) (A2 (Ab J (Aa (Az (A0 J J) (Az (Aj J J J (Cr tk e st1 hm hi1) J J J J) (Az (Aw (.agg #[.string ⟨#[]⟩, .int .i64 0, .string ⟨#[]⟩]) 104 J (by kernel_rfl) J J J J) (Az (Ap 3 J J J J (by kernel_rfl) J J J) (Ad (Az (Ao 1 1 J J J (by kernel_rfl) J) (Az (A4 J J J (by kernel_rfl) J) (Az (Au 3 J J J (by kernel_rfl) J J) (Az (Aq Bx 46 [.tmp 40] ([(AM tk e false st1).1]) 105 J J J J J J J J FitL.rf J J J J J J (by kernel_rfl)) ?_))))))))))))))))
   refine Az (B9 106 J J J J J J J J (by kernel_rfl) (by simp only [List.length_append, List.length_cons, List.length_nil]; omega)) ?_
   refine Az (Ao 1 1 J J J (by kernel_rfl) J) (Az (Ap 1 J J J J (by kernel_rfl) J J J) (A2 (A8 (Aa (Az (A0 J J) ?_)))))
   refine Dk (Aj J J J (Dg tk e (AM tk e false st1).2 hm (B5 hi1) ⟨#[44]⟩) J J J J) (fun b45 h45 => ?_)
   refine Az (Cn J J) (A2 ?_)
   cases b45
   · try simp only [tdy] at h45
     have hi2 := B5 (e := e) (b := false) hi1
     have hno := FE h12 (hinv.2.symm.trans (args_last h25 hnf hl h45))
     refine A5 J ?_
     refine Br (G5 J (B2 ?_))
     refine Aa (Az (A0 J J) (Az (Aj J J J (DL tk e _ hm hi2 ⟨#[41]⟩) J J J J) (Ad (Az (Au 2 J J J (by kernel_rfl) J J) (Az (Ap 2 J J J J (by kernel_rfl) J J J) (Ae ?_))))))
     exact ⟨rn [(9, 100), (0, 106)], ⟨⟨⟨_, J, VLe.rf⟩, O⟩, ⟨⟨_, J, by first | exact BLe.rf | exact AE (by rw [hno]; first | done | rfl)⟩, ⟨_, J, by first | exact BLe.rf | exact AE (by rw [hno]; first | done | rfl)⟩, ⟨_, J, by first | exact BLe.rf | (refine BLe.arr ?_; rw [hno]; first | done | rfl)⟩, O⟩, ⟨⟨J, .inl nofun, fun _ _ => ⟨_, J⟩⟩, O⟩, J⟩⟩
   try simp only [tdy] at h45
   have hmo := args_more h25 hnf hl h45
   have hlt := hmo.2.1
   have hmo1 := hmo.1
   refine Ab J (AG (Az (A0 J J) (Az (AI J J J) (Az (Ao 1 1 J J J (by kernel_rfl) J) (Az (A4 J J J (by kernel_rfl) J) ?_)))))
   refine Az (Bl J J J (IntWalk.i64_in _ (by omega))) ?_
   refine Az (AI J J J) (Az (Ao 1 1 J J J (by kernel_rfl) J) (Az (Ap 1 J J J J (by kernel_rfl) J J J) (A2 ?_)))
   refine ⟨⟨⟨(AM tk e false st1).2.next, a ++ [(AM tk e false st1).1]⟩, ⟨⟨hlt, by simp only [List.length_append, List.length_cons, List.length_nil]; omega⟩, hmo.2.2.trans hinv.2⟩⟩, rn [(103, 106)], ?_, by dsimp only; simp only [List.length_append, List.length_cons, List.length_nil]; omega⟩
   exact Ag (by repeat first | exact trivial | refine Ah J (by first | exact VLe.rf | exact A7 (by dsimp only; omega)) ?_) (by repeat first | exact trivial | refine Ai J (by first | exact BLe.rf | exact BLe.box AllC.rf | exact BLe.arr (by exact J)) ?_) J J
 try simp only [tdy] at h27
 refine AB J J (Ao 1 1 J J J (by kernel_rfl) J) (AB J J (A4 J J J (by kernel_rfl) J) (AB J J (Ax 46 3 J J J (by kernel_rfl)) ?_))
 refine Bh J J (AR J J J) (fun b32 h32 => ?_)
 refine Az (AJ J J J) (A2 ?_)
 cases b32
 rotate_left
 · try simp only [tdy] at h32
   have hi2 := Cm (e := e) (c := 7) hi1
   have hno := FE h12 (hinv.2.symm.trans (args_full h25 h27 h32))
   refine A5 J (Aa (Az (A0 J J) (Az (Aj J J J (BZ tk e st1 hm hi1 7) J J J J) (A2 ?_))))
   refine Br (G5 J (B2 ?_))
   refine Aa (Az (A0 J J) (Az (Aj J J J (DL tk e _ hm hi2 ⟨#[41]⟩) J J J J) (Ad (Az (Au 2 J J J (by kernel_rfl) J J) (Az (Ap 2 J J J J (by kernel_rfl) J J J) (Ae ?_))))))
   exact ⟨rn [(9, 100), (0, 103)], ⟨⟨⟨_, J, VLe.rf⟩, O⟩, ⟨⟨_, J, by first | exact BLe.rf | exact AE (by rw [hno]; first | done | rfl)⟩, ⟨_, J, by first | exact BLe.rf | exact AE (by rw [hno]; first | done | rfl)⟩, ⟨_, J, by first | exact BLe.rf | (refine BLe.arr ?_; rw [hno]; first | done | rfl)⟩, O⟩, ⟨⟨J, .inl nofun, fun _ _ => ⟨_, J⟩⟩, O⟩, J⟩⟩
 try simp only [tdy] at h32
 have hnf : ¬ (BN (AA tk e st1) = true ∧ (a.length : Int) = 6) := fun q => h32 q.2
 refine Ab J (Aa (Az (A0 J J) (Az (Aj J J J (Cr tk e st1 hm hi1) J J J J) (Az (Aw (.agg #[.string ⟨#[]⟩, .int .i64 0, .string ⟨#[]⟩]) 104 J (by kernel_rfl) J J J J) (Az (Ap 3 J J J J (by kernel_rfl) J J J) (Ad (Az (Ao 1 1 J J J (by kernel_rfl) J) (Az (A4 J J J (by kernel_rfl) J) (Az (Au 3 J J J (by kernel_rfl) J J) (Az (Aq Bx 46 [.tmp 40] ([(AM tk e false st1).1]) 105 J J J J J J J J FitL.rf J J J J J J (by kernel_rfl)) ?_))))))))))
 refine Az (B9 106 J J J J J J J J (by kernel_rfl) (by simp only [List.length_append, List.length_cons, List.length_nil]; omega)) ?_
 refine Az (Ao 1 1 J J J (by kernel_rfl) J) (Az (Ap 1 J J J J (by kernel_rfl) J J J) (A2 (A8 (Aa (Az (A0 J J) ?_)))))
 refine Dk (Aj J J J (Dg tk e (AM tk e false st1).2 hm (B5 hi1) ⟨#[44]⟩) J J J J) (fun b45 h45 => ?_)
 refine Az (Cn J J) (A2 ?_)
 cases b45
 · try simp only [tdy] at h45
   have hi2 := B5 (e := e) (b := false) hi1
   have hno := FE h12 (hinv.2.symm.trans (args_last h25 hnf hl h45))
   refine A5 J ?_
   refine Br (G5 J (B2 ?_))
   refine Aa (Az (A0 J J) (Az (Aj J J J (DL tk e _ hm hi2 ⟨#[41]⟩) J J J J) (Ad (Az (Au 2 J J J (by kernel_rfl) J J) (Az (Ap 2 J J J J (by kernel_rfl) J J J) (Ae ?_))))))
   exact ⟨rn [(9, 100), (0, 106)], ⟨⟨⟨_, J, VLe.rf⟩, O⟩, ⟨⟨_, J, by first | exact BLe.rf | exact AE (by rw [hno]; first | done | rfl)⟩, ⟨_, J, by first | exact BLe.rf | exact AE (by rw [hno]; first | done | rfl)⟩, ⟨_, J, by first | exact BLe.rf | (refine BLe.arr ?_; rw [hno]; first | done | rfl)⟩, O⟩, ⟨⟨J, .inl nofun, fun _ _ => ⟨_, J⟩⟩, O⟩, J⟩⟩
 try simp only [tdy] at h45
 have hmo := args_more h25 hnf hl h45
 have hlt := hmo.2.1
 have hmo1 := hmo.1
 refine Ab J (AG (Az (A0 J J) (Az (AI J J J) (Az (Ao 1 1 J J J (by kernel_rfl) J) (Az (A4 J J J (by kernel_rfl) J) ?_)))))
 refine Az (Bl J J J (IntWalk.i64_in _ (by omega))) ?_
 refine Az (AI J J J) (Az (Ao 1 1 J J J (by kernel_rfl) J) (Az (Ap 1 J J J J (by kernel_rfl) J J J) (A2 ?_)))
 refine ⟨⟨⟨(AM tk e false st1).2.next, a ++ [(AM tk e false st1).1]⟩, ⟨⟨hlt, by simp only [List.length_append, List.length_cons, List.length_nil]; omega⟩, hmo.2.2.trans hinv.2⟩⟩, rn [(103, 106)], ?_, by dsimp only; simp only [List.length_append, List.length_cons, List.length_nil]; omega⟩
 exact Ag (by repeat first | exact trivial | refine Ah J (by first | exact VLe.rf | exact A7 (by dsimp only; omega)) ?_) (by repeat first | exact trivial | refine Ai J (by first | exact BLe.rf | exact BLe.box AllC.rf | exact BLe.arr (by exact J)) ?_) J J

theorem GS (tk : List Tokent) (e : Int) (st : PS) (hm : tk.length ≤ 1048576) (hi : st.i ≤ tk.length) (k : Nat) (hk : Nat.beq k 200 = false) : AC Tryz.prog 52 [.one (.ptr 200 0)] [(200, some (psB tk e st))] (.agg (atomK (Cd tk e st).1 k)) [(200, some (psB tk e (Cd tk e st).2)), (k, some (.arr 46 Bx (Cd tk e st).1.args true))] := AC.ps (pAtomI_c0 tk e st hm hi) k hk (fun r h => atomK_ren h) (fun _ => rfl)

set_option maxHeartbeats 4000000 in
theorem pLitI_c0 (tk : List Tokent) (e : Int) (st : PS) (hm : tk.length ≤ 1048576) (hi : st.i ≤ tk.length) : AC Tryz.prog 79 [.one (.ptr 200 0)] [(200, some (psB tk e st))] (.agg (litO (CQ tk e st).1)) [(200, some (psB tk e (CQ tk e st).2)), (0, some (.arr 46 Bx (CQ tk e st).1.atom.args true))] := by
 refine En (n := 10) (k := 9) (T := [(2, .one (.ptr 9 0))]) (Lf := ((9, some (.box (litO (CQ tk e st).1))) :: [(200, some (psB tk e (CQ tk e st).2)), (0, some (.arr 46 Bx (CQ tk e st).1.atom.args true))])) Tryz.func79 J J Tryz.ntmps79 J Tryz.results79 J J (by kernel_rfl) J J ⟨O, (by repeat (first | exact trivial | refine ⟨⟨_, J, BLe.rf⟩, ?_⟩)), (Af J), J⟩ ?_
 refine Aa (Az (Aw (.agg #[.int .i64 0, .string ⟨#[]⟩, .slice none 0 0, .int .i64 0, .string ⟨#[]⟩, .int .i64 0, .string ⟨#[]⟩, .string ⟨#[]⟩, .int .i64 0, .string ⟨#[]⟩]) 100 J (by kernel_rfl) J J J J) (Ad (Az (A0 J J) (Az (Aj J J J (Di tk e st hm (hi)) J J J J) (Az (Aw (.agg #[.int .i64 0, .int .i64 0, .string ⟨#[]⟩, .int .i64 0]) 101 J (by kernel_rfl) J J J J) (Az (Ap 4 J J J J (by kernel_rfl) J J J) (A2 (A8 (Aa (Az (Ao 0 0 J J J (by kernel_rfl) J) (Az (A4 J J J (by kernel_rfl) J) ?_)))))))))))
 refine Bd (AR J J J) (fun b9 h9 => ?_)
 refine Az (A0 J J) ?_
 cases b9
 · try simp only [tdy] at h9
   have hnt : CP (AA tk e st) = false := by simp [CP, h9]
   refine A3 J J J J (A3 J J J J (A3 J J J J (Az (AD J J J) (A2 (Ab J (A8 (A8 (Bw J (Az (A0 J J) ?_)))))))))
   refine Dk (Aj J J J (Hr tk e st hm hi) J J J J) (fun b26 h26 => ?_)
   refine Az (A0 J J) ?_
   cases b26
   · try simp only [tdy] at h26
     have hop := Ie h26
     refine A3 J J J J (A3 J J J J (A3 J J J J (A3 J J J J (A3 J J J J (A3 J J J J (A3 J J J J (A3 J J J J (A3 J J J J (A3 J J J J (A3 J J J J (Az (AD J J J) (Az (A0 J J) (A3 J J J J (A3 J J J J (A3 J J J J (A3 J J J J (A3 J J J J (A3 J J J J (A3 J J J J (A3 J J J J (A3 J J J J (A3 J J J J (A3 J J J J ?_)))))))))))))))))))))))
     refine A3 J J J J (A3 J J J J (Az (AD J J J) (Az (A0 J J) (A3 J J J J (A3 J J J J (A3 J J J J (A3 J J J J (A3 J J J J (A3 J J J J (A3 J J J J (A3 J J J J (A3 J J J J (A3 J J J J (A3 J J J J (A3 J J J J (A3 J J J J (Az (AD J J J) (Bj (by kernel_rfl) ?_))))))))))))))))))
     refine Ab J (Aa (Az (Al [.int .i64 0, .string ⟨#[]⟩, .slice none 0 0, .int .i64 0, .string ⟨#[]⟩, .int .i64 0, .string ⟨#[]⟩, .string ⟨#[]⟩, .int .i64 0, .string ⟨#[]⟩] [(0, 1), (1, 2), (3, 1), (4, 3), (7, 3)] J (by kernel_rfl) J J J J J) (Az (Aw (.agg #[.int .i64 0, .string ⟨#[]⟩, .slice none 0 0, .int .i64 0, .string ⟨#[]⟩, .int .i64 0, .string ⟨#[]⟩, .string ⟨#[]⟩, .int .i64 0, .string ⟨#[]⟩]) 104 J (by kernel_rfl) J J J J) (Az (Ap 10 J J J J (by kernel_rfl) J J J) (Ad (Az (A0 J J) (Az (Aj J J J (Cr tk e st hm hi) J J J J) (Az (Ao 4 4 J J J (by kernel_rfl) J) (Az (Ap 3 J J J J (by kernel_rfl) J J J) (Ad (Az (A0 J J) (Az (Aj J J J (Di tk e (AM tk e false st).2 hm (B5 hi)) J J J J) (Az (Ap 4 J J J J (by kernel_rfl) J J J) (A2 (A8 (Aa (Az (Ao 0 0 J J J (by kernel_rfl) J) (Az (A4 J J J (by kernel_rfl) J) ?_))))))))))))))))))
     refine Bd (AR J J J) (fun b81 h81 => ?_)
     refine A2 ?_
     cases b81
     · try simp only [tdy] at h81
       have ho2 : opI (AA tk e (AM tk e false st).2) = _ := if_neg h81
       refine Ab J (A8 (Aa (Az (Ao 3 3 J J J (by kernel_rfl) J) (Az (A4 J J J (by kernel_rfl) J) ?_))))
       refine Bd (BI J J J) (fun b88 h88 => ?_)
       refine A2 ?_
       cases b88
       rotate_left
       · try simp only [tdy] at h88
         have hno := CF hnt hop (by rw [ho2]; omega)
         rw [ho2] at hno
         refine A5 J (Aa (Az (A0 J J) (Az (Aj J J J (BZ tk e (AM tk e false st).2 hm (B5 hi) 6) J J J J) (Ad (Az (Au 10 J J J (by kernel_rfl) J J) (Az (Ap 10 J J J J (by kernel_rfl) J J J) (A2 (Be (T := 46) (e := Bx) 105 100 2 J J J J J ?_))))))))
         refine AU ?_
         exact ⟨rn [(9, 100), (0, 105)], ⟨⟨⟨_, J, VLe.rf⟩, O⟩, ⟨⟨_, J, by first | exact BLe.rf | exact AE (by rw [hno]; first | done | rfl)⟩, ⟨_, J, by first | exact BLe.rf | exact AE (by rw [hno]; first | done | rfl)⟩, ⟨_, J, by first | exact BLe.rf | (refine BLe.arr ?_; rw [hno]; first | done | rfl)⟩, O⟩, ⟨⟨J, .inl nofun, fun _ _ => ⟨_, J⟩⟩, O⟩, J⟩⟩
       try simp only [tdy] at h88
       have hlt := Ca (F4 (tk := tk) (e := e) (st := (AM tk e false st).2) (by rw [ho2]; omega))
       have hlt2 : (AM tk e false st).2.i < tk.length := hlt
       have hno := CE hnt hop (by rw [ho2]; omega)
       rw [ho2] at hno
       refine Ab J (Aa (Az (A0 J J) (Az (AI J J J) (Az (Ao 1 1 J J J (by kernel_rfl) J) (Az (A4 J J J (by kernel_rfl) J) ?_)))))
       refine Az (Bl J J J (IntWalk.i64_in _ (by omega))) ?_
       refine Az (AI J J J) (Az (Ao 1 1 J J J (by kernel_rfl) J) (Az (Ap 1 J J J J (by kernel_rfl) J J J) (Ad (Az (A0 J J) (Az (Aj J J J (Cr tk e (AM tk e false st).2.next hm hlt) J J J J) (Az (Ao 7 7 J J J (by kernel_rfl) J) (Az (Ap 3 J J J J (by kernel_rfl) J J J) (Ad (Az (Au 10 J J J (by kernel_rfl) J J) (Az (Ap 10 J J J J (by kernel_rfl) J J J) (A2 (Be (T := 46) (e := Bx) 105 100 2 J J J J J ?_))))))))))))
       refine AU ?_
       exact ⟨rn [(9, 100), (0, 105)], ⟨⟨⟨_, J, VLe.rf⟩, O⟩, ⟨⟨_, J, by first | exact BLe.rf | exact AE (by rw [hno]; first | done | rfl)⟩, ⟨_, J, by first | exact BLe.rf | exact AE (by rw [hno]; first | done | rfl)⟩, ⟨_, J, by first | exact BLe.rf | (refine BLe.arr ?_; rw [hno]; first | done | rfl)⟩, O⟩, ⟨⟨J, .inl nofun, fun _ _ => ⟨_, J⟩⟩, O⟩, J⟩⟩
     try simp only [tdy] at h81
     have ho2 : opI (AA tk e (AM tk e false st).2) = _ := if_pos h81
     refine A5 J (AG (Az (Ao 2 2 J J J (by kernel_rfl) J) (Az (A4 J J J (by kernel_rfl) J) (Az (AS J J J (Gu _) J J) (Az (Ao 3 3 J J J (by kernel_rfl) J) (Az (Ap 1 J J J J (by kernel_rfl) J J J) (A2 (A8 (Aa (Az (Ao 3 3 J J J (by kernel_rfl) J) (Az (A4 J J J (by kernel_rfl) J) ?_)))))))))))
     refine Bd (BI J J J) (fun b88 h88 => ?_)
     refine A2 ?_
     cases b88
     rotate_left
     · try simp only [tdy] at h88
       have hno := CF hnt hop (by rw [ho2]; omega)
       rw [ho2] at hno
       refine A5 J (Aa (Az (A0 J J) (Az (Aj J J J (BZ tk e (AM tk e false st).2 hm (B5 hi) 6) J J J J) (Ad (Az (Au 10 J J J (by kernel_rfl) J J) (Az (Ap 10 J J J J (by kernel_rfl) J J J) (A2 (Be (T := 46) (e := Bx) 105 100 2 J J J J J ?_))))))))
       refine AU ?_
       exact ⟨rn [(9, 100), (0, 105)], ⟨⟨⟨_, J, VLe.rf⟩, O⟩, ⟨⟨_, J, by first | exact BLe.rf | exact AE (by rw [hno]; first | done | rfl)⟩, ⟨_, J, by first | exact BLe.rf | exact AE (by rw [hno]; first | done | rfl)⟩, ⟨_, J, by first | exact BLe.rf | (refine BLe.arr ?_; rw [hno]; first | done | rfl)⟩, O⟩, ⟨⟨J, .inl nofun, fun _ _ => ⟨_, J⟩⟩, O⟩, J⟩⟩
     try simp only [tdy] at h88
     have hlt := Ca (F4 (tk := tk) (e := e) (st := (AM tk e false st).2) (by rw [ho2]; omega))
     have hlt2 : (AM tk e false st).2.i < tk.length := hlt
     have hno := CE hnt hop (by rw [ho2]; omega)
     rw [ho2] at hno
     refine Ab J (Aa (Az (A0 J J) (Az (AI J J J) (Az (Ao 1 1 J J J (by kernel_rfl) J) (Az (A4 J J J (by kernel_rfl) J) ?_)))))
     refine Az (Bl J J J (IntWalk.i64_in _ (by omega))) ?_
     refine Az (AI J J J) (Az (Ao 1 1 J J J (by kernel_rfl) J) (Az (Ap 1 J J J J (by kernel_rfl) J J J) (Ad (Az (A0 J J) (Az (Aj J J J (Cr tk e (AM tk e false st).2.next hm hlt) J J J J) (Az (Ao 7 7 J J J (by kernel_rfl) J) (Az (Ap 3 J J J J (by kernel_rfl) J J J) (Ad (Az (Au 10 J J J (by kernel_rfl) J J) (Az (Ap 10 J J J J (by kernel_rfl) J J J) (A2 (Be (T := 46) (e := Bx) 105 100 2 J J J J J ?_))))))))))))
     refine AU ?_
     exact ⟨rn [(9, 100), (0, 105)], ⟨⟨⟨_, J, VLe.rf⟩, O⟩, ⟨⟨_, J, by first | exact BLe.rf | exact AE (by rw [hno]; first | done | rfl)⟩, ⟨_, J, by first | exact BLe.rf | exact AE (by rw [hno]; first | done | rfl)⟩, ⟨_, J, by first | exact BLe.rf | (refine BLe.arr ?_; rw [hno]; first | done | rfl)⟩, O⟩, ⟨⟨J, .inl nofun, fun _ _ => ⟨_, J⟩⟩, O⟩, J⟩⟩
   try simp only [tdy] at h26
   refine AB J J (A0 J J) (AB J J (AI J J J) (AB J J (Ao 1 1 J J J (by kernel_rfl) J) (AB J J (A4 J J J (by kernel_rfl) J) ?_)))
   refine AB J J (Bl J J J (IntWalk.i64_in _ (by omega))) ?_
   refine AB J J (A0 J J) (AB J J (AI J J J) (AB J J (Ao 0 0 J J J (by kernel_rfl) J) (AB J J (A4 J J J (by kernel_rfl) J) (AB J J (Ak 62 4 J J (by kernel_rfl)) ?_))))
   refine Bh J J (BI J J J) (fun b38 h38 => ?_)
   refine Az (AJ J J J) (Az (A0 J J) ?_)
   cases b38
   · try simp only [tdy] at h38
     have hop := open_end h26 (by omega)
     refine A3 J J J J (A3 J J J J (A3 J J J J (A3 J J J J (A3 J J J J (A3 J J J J (A3 J J J J (A3 J J J J (A3 J J J J (A3 J J J J (A3 J J J J (A3 J J J J (A3 J J J J (Az (AD J J J) (Az (A0 J J) (A3 J J J J (A3 J J J J (A3 J J J J (A3 J J J J (A3 J J J J (A3 J J J J (A3 J J J J (A3 J J J J (A3 J J J J ?_)))))))))))))))))))))))
     refine A3 J J J J (A3 J J J J (A3 J J J J (A3 J J J J (Az (AD J J J) (Bj (by kernel_rfl) ?_)))))
     refine Ab J (Aa (Az (Al [.int .i64 0, .string ⟨#[]⟩, .slice none 0 0, .int .i64 0, .string ⟨#[]⟩, .int .i64 0, .string ⟨#[]⟩, .string ⟨#[]⟩, .int .i64 0, .string ⟨#[]⟩] [(0, 1), (1, 2), (3, 1), (4, 3), (7, 3)] J (by kernel_rfl) J J J J J) (Az (Aw (.agg #[.int .i64 0, .string ⟨#[]⟩, .slice none 0 0, .int .i64 0, .string ⟨#[]⟩, .int .i64 0, .string ⟨#[]⟩, .string ⟨#[]⟩, .int .i64 0, .string ⟨#[]⟩]) 104 J (by kernel_rfl) J J J J) (Az (Ap 10 J J J J (by kernel_rfl) J J J) (Ad (Az (A0 J J) (Az (Aj J J J (Cr tk e st hm hi) J J J J) (Az (Ao 4 4 J J J (by kernel_rfl) J) (Az (Ap 3 J J J J (by kernel_rfl) J J J) (Ad (Az (A0 J J) (Az (Aj J J J (Di tk e (AM tk e false st).2 hm (B5 hi)) J J J J) (Az (Ap 4 J J J J (by kernel_rfl) J J J) (A2 (A8 (Aa (Az (Ao 0 0 J J J (by kernel_rfl) J) (Az (A4 J J J (by kernel_rfl) J) ?_))))))))))))))))))
     refine Bd (AR J J J) (fun b81 h81 => ?_)
     refine A2 ?_
     cases b81
     · try simp only [tdy] at h81
       have ho2 : opI (AA tk e (AM tk e false st).2) = _ := if_neg h81
       refine Ab J (A8 (Aa (Az (Ao 3 3 J J J (by kernel_rfl) J) (Az (A4 J J J (by kernel_rfl) J) ?_))))
       refine Bd (BI J J J) (fun b88 h88 => ?_)
       refine A2 ?_
       cases b88
       rotate_left
       · try simp only [tdy] at h88
         have hno := CF hnt hop (by rw [ho2]; omega)
         rw [ho2] at hno
         refine A5 J (Aa (Az (A0 J J) (Az (Aj J J J (BZ tk e (AM tk e false st).2 hm (B5 hi) 6) J J J J) (Ad (Az (Au 10 J J J (by kernel_rfl) J J) (Az (Ap 10 J J J J (by kernel_rfl) J J J) (A2 (Be (T := 46) (e := Bx) 105 100 2 J J J J J ?_))))))))
         refine AU ?_
         exact ⟨rn [(9, 100), (0, 105)], ⟨⟨⟨_, J, VLe.rf⟩, O⟩, ⟨⟨_, J, by first | exact BLe.rf | exact AE (by rw [hno]; first | done | rfl)⟩, ⟨_, J, by first | exact BLe.rf | exact AE (by rw [hno]; first | done | rfl)⟩, ⟨_, J, by first | exact BLe.rf | (refine BLe.arr ?_; rw [hno]; first | done | rfl)⟩, O⟩, ⟨⟨J, .inl nofun, fun _ _ => ⟨_, J⟩⟩, O⟩, J⟩⟩
       try simp only [tdy] at h88
       have hlt := Ca (F4 (tk := tk) (e := e) (st := (AM tk e false st).2) (by rw [ho2]; omega))
       have hlt2 : (AM tk e false st).2.i < tk.length := hlt
       have hno := CE hnt hop (by rw [ho2]; omega)
       rw [ho2] at hno
       refine Ab J (Aa (Az (A0 J J) (Az (AI J J J) (Az (Ao 1 1 J J J (by kernel_rfl) J) (Az (A4 J J J (by kernel_rfl) J) ?_)))))
       refine Az (Bl J J J (IntWalk.i64_in _ (by omega))) ?_
       refine Az (AI J J J) (Az (Ao 1 1 J J J (by kernel_rfl) J) (Az (Ap 1 J J J J (by kernel_rfl) J J J) (Ad (Az (A0 J J) (Az (Aj J J J (Cr tk e (AM tk e false st).2.next hm hlt) J J J J) (Az (Ao 7 7 J J J (by kernel_rfl) J) (Az (Ap 3 J J J J (by kernel_rfl) J J J) (Ad (Az (Au 10 J J J (by kernel_rfl) J J) (Az (Ap 10 J J J J (by kernel_rfl) J J J) (A2 (Be (T := 46) (e := Bx) 105 100 2 J J J J J ?_))))))))))))
       refine AU ?_
       exact ⟨rn [(9, 100), (0, 105)], ⟨⟨⟨_, J, VLe.rf⟩, O⟩, ⟨⟨_, J, by first | exact BLe.rf | exact AE (by rw [hno]; first | done | rfl)⟩, ⟨_, J, by first | exact BLe.rf | exact AE (by rw [hno]; first | done | rfl)⟩, ⟨_, J, by first | exact BLe.rf | (refine BLe.arr ?_; rw [hno]; first | done | rfl)⟩, O⟩, ⟨⟨J, .inl nofun, fun _ _ => ⟨_, J⟩⟩, O⟩, J⟩⟩
     try simp only [tdy] at h81
     have ho2 : opI (AA tk e (AM tk e false st).2) = _ := if_pos h81
     refine A5 J (AG (Az (Ao 2 2 J J J (by kernel_rfl) J) (Az (A4 J J J (by kernel_rfl) J) (Az (AS J J J (Gu _) J J) (Az (Ao 3 3 J J J (by kernel_rfl) J) (Az (Ap 1 J J J J (by kernel_rfl) J J J) (A2 (A8 (Aa (Az (Ao 3 3 J J J (by kernel_rfl) J) (Az (A4 J J J (by kernel_rfl) J) ?_)))))))))))
     refine Bd (BI J J J) (fun b88 h88 => ?_)
     refine A2 ?_
     cases b88
     rotate_left
     · try simp only [tdy] at h88
       have hno := CF hnt hop (by rw [ho2]; omega)
       rw [ho2] at hno
       refine A5 J (Aa (Az (A0 J J) (Az (Aj J J J (BZ tk e (AM tk e false st).2 hm (B5 hi) 6) J J J J) (Ad (Az (Au 10 J J J (by kernel_rfl) J J) (Az (Ap 10 J J J J (by kernel_rfl) J J J) (A2 (Be (T := 46) (e := Bx) 105 100 2 J J J J J ?_))))))))
       refine AU ?_
       exact ⟨rn [(9, 100), (0, 105)], ⟨⟨⟨_, J, VLe.rf⟩, O⟩, ⟨⟨_, J, by first | exact BLe.rf | exact AE (by rw [hno]; first | done | rfl)⟩, ⟨_, J, by first | exact BLe.rf | exact AE (by rw [hno]; first | done | rfl)⟩, ⟨_, J, by first | exact BLe.rf | (refine BLe.arr ?_; rw [hno]; first | done | rfl)⟩, O⟩, ⟨⟨J, .inl nofun, fun _ _ => ⟨_, J⟩⟩, O⟩, J⟩⟩
     try simp only [tdy] at h88
     have hlt := Ca (F4 (tk := tk) (e := e) (st := (AM tk e false st).2) (by rw [ho2]; omega))
     have hlt2 : (AM tk e false st).2.i < tk.length := hlt
     have hno := CE hnt hop (by rw [ho2]; omega)
     rw [ho2] at hno
     refine Ab J (Aa (Az (A0 J J) (Az (AI J J J) (Az (Ao 1 1 J J J (by kernel_rfl) J) (Az (A4 J J J (by kernel_rfl) J) ?_)))))
     refine Az (Bl J J J (IntWalk.i64_in _ (by omega))) ?_
     refine Az (AI J J J) (Az (Ao 1 1 J J J (by kernel_rfl) J) (Az (Ap 1 J J J J (by kernel_rfl) J J J) (Ad (Az (A0 J J) (Az (Aj J J J (Cr tk e (AM tk e false st).2.next hm hlt) J J J J) (Az (Ao 7 7 J J J (by kernel_rfl) J) (Az (Ap 3 J J J J (by kernel_rfl) J J J) (Ad (Az (Au 10 J J J (by kernel_rfl) J J) (Az (Ap 10 J J J J (by kernel_rfl) J J J) (A2 (Be (T := 46) (e := Bx) 105 100 2 J J J J J ?_))))))))))))
     refine AU ?_
     exact ⟨rn [(9, 100), (0, 105)], ⟨⟨⟨_, J, VLe.rf⟩, O⟩, ⟨⟨_, J, by first | exact BLe.rf | exact AE (by rw [hno]; first | done | rfl)⟩, ⟨_, J, by first | exact BLe.rf | exact AE (by rw [hno]; first | done | rfl)⟩, ⟨_, J, by first | exact BLe.rf | (refine BLe.arr ?_; rw [hno]; first | done | rfl)⟩, O⟩, ⟨⟨J, .inl nofun, fun _ _ => ⟨_, J⟩⟩, O⟩, J⟩⟩
   try simp only [tdy] at h38
   refine AB J J (A0 J J) (AB J J (AI J J J) (AB J J (Ao 0 0 J J J (by kernel_rfl) J) (AB J J (A4 J J J (by kernel_rfl) J) (AB J J (A0 J J) (AB J J (AI J J J) (AB J J (Ao 1 1 J J J (by kernel_rfl) J) (AB J J (A4 J J J (by kernel_rfl) J) ?_)))))))
   refine AB J J (Bl J J J (IntWalk.i64_in _ (by omega))) ?_
   refine AB J J (Am 62 4 (st.i + 1) J J J (by kernel_rfl) J (by omega) (by omega)) ?_
   refine AB J J (CM (off := 0) (o' := 0) J J (by kernel_rfl) J) (AB J J (BW J J (by kernel_rfl) J) ?_)
   refine Bh J J (AR J J J) (fun b53 h53 => ?_)
   refine Az (AJ J J J) (Az (A0 J J) ?_)
   cases b53
   · try simp only [tdy] at h53
     have hop : CW tk e st = false := (Ig h26 (by omega)).trans (by simp [Bt, h53])
     refine A3 J J J J (A3 J J J J (A3 J J J J (A3 J J J J (A3 J J J J (A3 J J J J (A3 J J J J (A3 J J J J (A3 J J J J (A3 J J J J (A3 J J J J (A3 J J J J (A3 J J J J (Az (AD J J J) (Bj (by kernel_rfl) ?_))))))))))))))
     refine Ab J (Aa (Az (Al [.int .i64 0, .string ⟨#[]⟩, .slice none 0 0, .int .i64 0, .string ⟨#[]⟩, .int .i64 0, .string ⟨#[]⟩, .string ⟨#[]⟩, .int .i64 0, .string ⟨#[]⟩] [(0, 1), (1, 2), (3, 1), (4, 3), (7, 3)] J (by kernel_rfl) J J J J J) (Az (Aw (.agg #[.int .i64 0, .string ⟨#[]⟩, .slice none 0 0, .int .i64 0, .string ⟨#[]⟩, .int .i64 0, .string ⟨#[]⟩, .string ⟨#[]⟩, .int .i64 0, .string ⟨#[]⟩]) 104 J (by kernel_rfl) J J J J) (Az (Ap 10 J J J J (by kernel_rfl) J J J) (Ad (Az (A0 J J) (Az (Aj J J J (Cr tk e st hm hi) J J J J) (Az (Ao 4 4 J J J (by kernel_rfl) J) (Az (Ap 3 J J J J (by kernel_rfl) J J J) (Ad (Az (A0 J J) (Az (Aj J J J (Di tk e (AM tk e false st).2 hm (B5 hi)) J J J J) (Az (Ap 4 J J J J (by kernel_rfl) J J J) (A2 (A8 (Aa (Az (Ao 0 0 J J J (by kernel_rfl) J) (Az (A4 J J J (by kernel_rfl) J) ?_))))))))))))))))))
     refine Bd (AR J J J) (fun b81 h81 => ?_)
     refine A2 ?_
     cases b81
     · try simp only [tdy] at h81
       have ho2 : opI (AA tk e (AM tk e false st).2) = _ := if_neg h81
       refine Ab J (A8 (Aa (Az (Ao 3 3 J J J (by kernel_rfl) J) (Az (A4 J J J (by kernel_rfl) J) ?_))))
       refine Bd (BI J J J) (fun b88 h88 => ?_)
       refine A2 ?_
       cases b88
       rotate_left
       · try simp only [tdy] at h88
         have hno := CF hnt hop (by rw [ho2]; omega)
         rw [ho2] at hno
         refine A5 J (Aa (Az (A0 J J) (Az (Aj J J J (BZ tk e (AM tk e false st).2 hm (B5 hi) 6) J J J J) (Ad (Az (Au 10 J J J (by kernel_rfl) J J) (Az (Ap 10 J J J J (by kernel_rfl) J J J) (A2 (Be (T := 46) (e := Bx) 105 100 2 J J J J J ?_))))))))
         refine AU ?_
         exact ⟨rn [(9, 100), (0, 105)], ⟨⟨⟨_, J, VLe.rf⟩, O⟩, ⟨⟨_, J, by first | exact BLe.rf | exact AE (by rw [hno]; first | done | rfl)⟩, ⟨_, J, by first | exact BLe.rf | exact AE (by rw [hno]; first | done | rfl)⟩, ⟨_, J, by first | exact BLe.rf | (refine BLe.arr ?_; rw [hno]; first | done | rfl)⟩, O⟩, ⟨⟨J, .inl nofun, fun _ _ => ⟨_, J⟩⟩, O⟩, J⟩⟩
       try simp only [tdy] at h88
       have hlt := Ca (F4 (tk := tk) (e := e) (st := (AM tk e false st).2) (by rw [ho2]; omega))
       have hlt2 : (AM tk e false st).2.i < tk.length := hlt
       have hno := CE hnt hop (by rw [ho2]; omega)
       rw [ho2] at hno
       refine Ab J (Aa (Az (A0 J J) (Az (AI J J J) (Az (Ao 1 1 J J J (by kernel_rfl) J) (Az (A4 J J J (by kernel_rfl) J) ?_)))))
       refine Az (Bl J J J (IntWalk.i64_in _ (by omega))) ?_
       refine Az (AI J J J) (Az (Ao 1 1 J J J (by kernel_rfl) J) (Az (Ap 1 J J J J (by kernel_rfl) J J J) (Ad (Az (A0 J J) (Az (Aj J J J (Cr tk e (AM tk e false st).2.next hm hlt) J J J J) (Az (Ao 7 7 J J J (by kernel_rfl) J) (Az (Ap 3 J J J J (by kernel_rfl) J J J) (Ad (Az (Au 10 J J J (by kernel_rfl) J J) (Az (Ap 10 J J J J (by kernel_rfl) J J J) (A2 (Be (T := 46) (e := Bx) 105 100 2 J J J J J ?_))))))))))))
       refine AU ?_
       exact ⟨rn [(9, 100), (0, 105)], ⟨⟨⟨_, J, VLe.rf⟩, O⟩, ⟨⟨_, J, by first | exact BLe.rf | exact AE (by rw [hno]; first | done | rfl)⟩, ⟨_, J, by first | exact BLe.rf | exact AE (by rw [hno]; first | done | rfl)⟩, ⟨_, J, by first | exact BLe.rf | (refine BLe.arr ?_; rw [hno]; first | done | rfl)⟩, O⟩, ⟨⟨J, .inl nofun, fun _ _ => ⟨_, J⟩⟩, O⟩, J⟩⟩
     try simp only [tdy] at h81
     have ho2 : opI (AA tk e (AM tk e false st).2) = _ := if_pos h81
     refine A5 J (AG (Az (Ao 2 2 J J J (by kernel_rfl) J) (Az (A4 J J J (by kernel_rfl) J) (Az (AS J J J (Gu _) J J) (Az (Ao 3 3 J J J (by kernel_rfl) J) (Az (Ap 1 J J J J (by kernel_rfl) J J J) (A2 (A8 (Aa (Az (Ao 3 3 J J J (by kernel_rfl) J) (Az (A4 J J J (by kernel_rfl) J) ?_)))))))))))
     refine Bd (BI J J J) (fun b88 h88 => ?_)
     refine A2 ?_
     cases b88
     rotate_left
     · try simp only [tdy] at h88
       have hno := CF hnt hop (by rw [ho2]; omega)
       rw [ho2] at hno
       refine A5 J (Aa (Az (A0 J J) (Az (Aj J J J (BZ tk e (AM tk e false st).2 hm (B5 hi) 6) J J J J) (Ad (Az (Au 10 J J J (by kernel_rfl) J J) (Az (Ap 10 J J J J (by kernel_rfl) J J J) (A2 (Be (T := 46) (e := Bx) 105 100 2 J J J J J ?_))))))))
       refine AU ?_
       exact ⟨rn [(9, 100), (0, 105)], ⟨⟨⟨_, J, VLe.rf⟩, O⟩, ⟨⟨_, J, by first | exact BLe.rf | exact AE (by rw [hno]; first | done | rfl)⟩, ⟨_, J, by first | exact BLe.rf | exact AE (by rw [hno]; first | done | rfl)⟩, ⟨_, J, by first | exact BLe.rf | (refine BLe.arr ?_; rw [hno]; first | done | rfl)⟩, O⟩, ⟨⟨J, .inl nofun, fun _ _ => ⟨_, J⟩⟩, O⟩, J⟩⟩
     try simp only [tdy] at h88
     have hlt := Ca (F4 (tk := tk) (e := e) (st := (AM tk e false st).2) (by rw [ho2]; omega))
     have hlt2 : (AM tk e false st).2.i < tk.length := hlt
     have hno := CE hnt hop (by rw [ho2]; omega)
     rw [ho2] at hno
     refine Ab J (Aa (Az (A0 J J) (Az (AI J J J) (Az (Ao 1 1 J J J (by kernel_rfl) J) (Az (A4 J J J (by kernel_rfl) J) ?_)))))
     refine Az (Bl J J J (IntWalk.i64_in _ (by omega))) ?_
     refine Az (AI J J J) (Az (Ao 1 1 J J J (by kernel_rfl) J) (Az (Ap 1 J J J J (by kernel_rfl) J J J) (Ad (Az (A0 J J) (Az (Aj J J J (Cr tk e (AM tk e false st).2.next hm hlt) J J J J) (Az (Ao 7 7 J J J (by kernel_rfl) J) (Az (Ap 3 J J J J (by kernel_rfl) J J J) (Ad (Az (Au 10 J J J (by kernel_rfl) J J) (Az (Ap 10 J J J J (by kernel_rfl) J J J) (A2 (Be (T := 46) (e := Bx) 105 100 2 J J J J J ?_))))))))))))
     refine AU ?_
     exact ⟨rn [(9, 100), (0, 105)], ⟨⟨⟨_, J, VLe.rf⟩, O⟩, ⟨⟨_, J, by first | exact BLe.rf | exact AE (by rw [hno]; first | done | rfl)⟩, ⟨_, J, by first | exact BLe.rf | exact AE (by rw [hno]; first | done | rfl)⟩, ⟨_, J, by first | exact BLe.rf | (refine BLe.arr ?_; rw [hno]; first | done | rfl)⟩, O⟩, ⟨⟨J, .inl nofun, fun _ _ => ⟨_, J⟩⟩, O⟩, J⟩⟩
   try simp only [tdy] at h53
   refine AB J J (A0 J J) (AB J J (AI J J J) (AB J J (Ao 0 0 J J J (by kernel_rfl) J) (AB J J (A4 J J J (by kernel_rfl) J) (AB J J (A0 J J) (AB J J (AI J J J) (AB J J (Ao 1 1 J J J (by kernel_rfl) J) (AB J J (A4 J J J (by kernel_rfl) J) ?_)))))))
   refine AB J J (Bl J J J (IntWalk.i64_in _ (by omega))) ?_
   refine AB J J (Am 62 4 (st.i + 1) J J J (by kernel_rfl) J (by omega) (by omega)) ?_
   refine AB J J (CM (off := 2) (o' := 2) J J (by kernel_rfl) J) (AB J J (BW J J (by kernel_rfl) J) ?_)
   refine Bh J J (DH J J J) (fun b68 h68 => ?_)
   refine Az (AJ J J J) (Bj (by kernel_rfl) ?_)
   cases b68
   rotate_left
   · try simp only [tdy] at h68
     have hop : CW tk e st = true := (Ig h26 (by omega)).trans (by simp [Bt, h53, h68])
     have hno := litI_is hnt hop
     refine A5 J (Aa (Az (A0 J J) (Az (Av [] [(200, some _)] [(200, some _), (103, some _)] J J J (GS tk e st hm hi 103 J) J AllV.rf (BE J) J J J ⟨J, O⟩ J) (Az (Al [.int .i64 0, .string ⟨#[]⟩, .slice none 0 0, .int .i64 0, .string ⟨#[]⟩, .int .i64 0, .string ⟨#[]⟩, .string ⟨#[]⟩, .int .i64 0, .string ⟨#[]⟩] [(0, 1), (1, 2), (3, 1), (4, 3), (7, 3)] J (by kernel_rfl) J J J J J) (Az (Ap 10 J J J J (by kernel_rfl) J J J) (Ae ?_))))))
     exact ⟨rn [(9, 100), (0, 103)], ⟨⟨⟨_, J, VLe.rf⟩, O⟩, ⟨⟨_, J, by first | exact BLe.rf | exact AE (by rw [hno]; first | done | rfl)⟩, ⟨_, J, by first | exact BLe.rf | exact AE (by rw [hno]; first | done | rfl)⟩, ⟨_, J, by first | exact BLe.rf | (refine BLe.arr ?_; rw [hno]; first | done | rfl)⟩, O⟩, ⟨⟨J, .inl nofun, fun _ _ => ⟨_, J⟩⟩, O⟩, J⟩⟩
   try simp only [tdy] at h68
   have hop : CW tk e st = false := (Ig h26 (by omega)).trans (by simp [Bt, h53, h68])
   refine Ab J (Aa (Az (Al [.int .i64 0, .string ⟨#[]⟩, .slice none 0 0, .int .i64 0, .string ⟨#[]⟩, .int .i64 0, .string ⟨#[]⟩, .string ⟨#[]⟩, .int .i64 0, .string ⟨#[]⟩] [(0, 1), (1, 2), (3, 1), (4, 3), (7, 3)] J (by kernel_rfl) J J J J J) (Az (Aw (.agg #[.int .i64 0, .string ⟨#[]⟩, .slice none 0 0, .int .i64 0, .string ⟨#[]⟩, .int .i64 0, .string ⟨#[]⟩, .string ⟨#[]⟩, .int .i64 0, .string ⟨#[]⟩]) 104 J (by kernel_rfl) J J J J) (Az (Ap 10 J J J J (by kernel_rfl) J J J) (Ad (Az (A0 J J) (Az (Aj J J J (Cr tk e st hm hi) J J J J) (Az (Ao 4 4 J J J (by kernel_rfl) J) (Az (Ap 3 J J J J (by kernel_rfl) J J J) (Ad (Az (A0 J J) (Az (Aj J J J (Di tk e (AM tk e false st).2 hm (B5 hi)) J J J J) (Az (Ap 4 J J J J (by kernel_rfl) J J J) (A2 (A8 (Aa (Az (Ao 0 0 J J J (by kernel_rfl) J) (Az (A4 J J J (by kernel_rfl) J) ?_))))))))))))))))))
   refine Bd (AR J J J) (fun b81 h81 => ?_)
   refine A2 ?_
   cases b81
   · try simp only [tdy] at h81
     have ho2 : opI (AA tk e (AM tk e false st).2) = _ := if_neg h81
     refine Ab J (A8 (Aa (Az (Ao 3 3 J J J (by kernel_rfl) J) (Az (A4 J J J (by kernel_rfl) J) ?_))))
     refine Bd (BI J J J) (fun b88 h88 => ?_)
     refine A2 ?_
     cases b88
     rotate_left
     · try simp only [tdy] at h88
       have hno := CF hnt hop (by rw [ho2]; omega)
       rw [ho2] at hno
       refine A5 J (Aa (Az (A0 J J) (Az (Aj J J J (BZ tk e (AM tk e false st).2 hm (B5 hi) 6) J J J J) (Ad (Az (Au 10 J J J (by kernel_rfl) J J) (Az (Ap 10 J J J J (by kernel_rfl) J J J) (A2 (Be (T := 46) (e := Bx) 105 100 2 J J J J J ?_))))))))
       refine AU ?_
       exact ⟨rn [(9, 100), (0, 105)], ⟨⟨⟨_, J, VLe.rf⟩, O⟩, ⟨⟨_, J, by first | exact BLe.rf | exact AE (by rw [hno]; first | done | rfl)⟩, ⟨_, J, by first | exact BLe.rf | exact AE (by rw [hno]; first | done | rfl)⟩, ⟨_, J, by first | exact BLe.rf | (refine BLe.arr ?_; rw [hno]; first | done | rfl)⟩, O⟩, ⟨⟨J, .inl nofun, fun _ _ => ⟨_, J⟩⟩, O⟩, J⟩⟩
     try simp only [tdy] at h88
     have hlt := Ca (F4 (tk := tk) (e := e) (st := (AM tk e false st).2) (by rw [ho2]; omega))
     have hlt2 : (AM tk e false st).2.i < tk.length := hlt
     have hno := CE hnt hop (by rw [ho2]; omega)
     rw [ho2] at hno
     refine Ab J (Aa (Az (A0 J J) (Az (AI J J J) (Az (Ao 1 1 J J J (by kernel_rfl) J) (Az (A4 J J J (by kernel_rfl) J) ?_)))))
     refine Az (Bl J J J (IntWalk.i64_in _ (by omega))) ?_
     refine Az (AI J J J) (Az (Ao 1 1 J J J (by kernel_rfl) J) (Az (Ap 1 J J J J (by kernel_rfl) J J J) (Ad (Az (A0 J J) (Az (Aj J J J (Cr tk e (AM tk e false st).2.next hm hlt) J J J J) (Az (Ao 7 7 J J J (by kernel_rfl) J) (Az (Ap 3 J J J J (by kernel_rfl) J J J) (Ad (Az (Au 10 J J J (by kernel_rfl) J J) (Az (Ap 10 J J J J (by kernel_rfl) J J J) (A2 (Be (T := 46) (e := Bx) 105 100 2 J J J J J ?_))))))))))))
     refine AU ?_
     exact ⟨rn [(9, 100), (0, 105)], ⟨⟨⟨_, J, VLe.rf⟩, O⟩, ⟨⟨_, J, by first | exact BLe.rf | exact AE (by rw [hno]; first | done | rfl)⟩, ⟨_, J, by first | exact BLe.rf | exact AE (by rw [hno]; first | done | rfl)⟩, ⟨_, J, by first | exact BLe.rf | (refine BLe.arr ?_; rw [hno]; first | done | rfl)⟩, O⟩, ⟨⟨J, .inl nofun, fun _ _ => ⟨_, J⟩⟩, O⟩, J⟩⟩
   try simp only [tdy] at h81
   have ho2 : opI (AA tk e (AM tk e false st).2) = _ := if_pos h81
   refine A5 J (AG (Az (Ao 2 2 J J J (by kernel_rfl) J) (Az (A4 J J J (by kernel_rfl) J) (Az (AS J J J (Gu _) J J) (Az (Ao 3 3 J J J (by kernel_rfl) J) (Az (Ap 1 J J J J (by kernel_rfl) J J J) (A2 (A8 (Aa (Az (Ao 3 3 J J J (by kernel_rfl) J) (Az (A4 J J J (by kernel_rfl) J) ?_)))))))))))
   refine Bd (BI J J J) (fun b88 h88 => ?_)
   refine A2 ?_
   cases b88
   rotate_left
   · try simp only [tdy] at h88
     have hno := CF hnt hop (by rw [ho2]; omega)
     rw [ho2] at hno
     refine A5 J (Aa (Az (A0 J J) (Az (Aj J J J (BZ tk e (AM tk e false st).2 hm (B5 hi) 6) J J J J) (Ad (Az (Au 10 J J J (by kernel_rfl) J J) (Az (Ap 10 J J J J (by kernel_rfl) J J J) (A2 (Be (T := 46) (e := Bx) 105 100 2 J J J J J ?_))))))))
     refine AU ?_
     exact ⟨rn [(9, 100), (0, 105)], ⟨⟨⟨_, J, VLe.rf⟩, O⟩, ⟨⟨_, J, by first | exact BLe.rf | exact AE (by rw [hno]; first | done | rfl)⟩, ⟨_, J, by first | exact BLe.rf | exact AE (by rw [hno]; first | done | rfl)⟩, ⟨_, J, by first | exact BLe.rf | (refine BLe.arr ?_; rw [hno]; first | done | rfl)⟩, O⟩, ⟨⟨J, .inl nofun, fun _ _ => ⟨_, J⟩⟩, O⟩, J⟩⟩
   try simp only [tdy] at h88
   have hlt := Ca (F4 (tk := tk) (e := e) (st := (AM tk e false st).2) (by rw [ho2]; omega))
   have hlt2 : (AM tk e false st).2.i < tk.length := hlt
   have hno := CE hnt hop (by rw [ho2]; omega)
   rw [ho2] at hno
   refine Ab J (Aa (Az (A0 J J) (Az (AI J J J) (Az (Ao 1 1 J J J (by kernel_rfl) J) (Az (A4 J J J (by kernel_rfl) J) ?_)))))
   refine Az (Bl J J J (IntWalk.i64_in _ (by omega))) ?_
   refine Az (AI J J J) (Az (Ao 1 1 J J J (by kernel_rfl) J) (Az (Ap 1 J J J J (by kernel_rfl) J J J) (Ad (Az (A0 J J) (Az (Aj J J J (Cr tk e (AM tk e false st).2.next hm hlt) J J J J) (Az (Ao 7 7 J J J (by kernel_rfl) J) (Az (Ap 3 J J J J (by kernel_rfl) J J J) (Ad (Az (Au 10 J J J (by kernel_rfl) J J) (Az (Ap 10 J J J J (by kernel_rfl) J J J) (A2 (Be (T := 46) (e := Bx) 105 100 2 J J J J J ?_))))))))))))
   refine AU ?_
   exact ⟨rn [(9, 100), (0, 105)], ⟨⟨⟨_, J, VLe.rf⟩, O⟩, ⟨⟨_, J, by first | exact BLe.rf | exact AE (by rw [hno]; first | done | rfl)⟩, ⟨_, J, by first | exact BLe.rf | exact AE (by rw [hno]; first | done | rfl)⟩, ⟨_, J, by first | exact BLe.rf | (refine BLe.arr ?_; rw [hno]; first | done | rfl)⟩, O⟩, ⟨⟨J, .inl nofun, fun _ _ => ⟨_, J⟩⟩, O⟩, J⟩⟩
 try simp only [tdy] at h9
 refine AB J J (Ao 2 2 J J J (by kernel_rfl) J) (AB J J (A4 J J J (by kernel_rfl) J) ?_)
 refine Bh J J (DH J J J) (fun b13 h13 => ?_)
 refine Az (AJ J J J) (A2 ?_)
 cases b13
 rotate_left
 · try simp only [tdy] at h13
   have hnt : CP (AA tk e st) = true := by simp [CP, FG, h9, h13]
   have hlt := Ca (not_lt hnt)
   have hlt2 := not_lt hnt
   have hno := litI_not hnt
   refine A5 J (Aa (Az (A0 J J) (Az (AI J J J) (Az (Ao 1 1 J J J (by kernel_rfl) J) (Az (A4 J J J (by kernel_rfl) J) ?_)))))
   refine Az (Bl J J J (IntWalk.i64_in _ (by omega))) ?_
   refine Az (AI J J J) (Az (Ao 1 1 J J J (by kernel_rfl) J) (Az (Ap 1 J J J J (by kernel_rfl) J J J) (Ad (Az (A0 J J) (Az (Av [] [(200, some _)] [(200, some _), (102, some _)] J J J (GS tk e st.next hm hlt 102 J) J AllV.rf (BE J) J J J ⟨J, O⟩ J) (Az (Al [.int .i64 0, .string ⟨#[]⟩, .slice none 0 0, .int .i64 0, .string ⟨#[]⟩, .int .i64 0, .string ⟨#[]⟩, .string ⟨#[]⟩, .int .i64 0, .string ⟨#[]⟩] [(0, 1), (1, 2), (3, 1), (4, 3), (7, 3)] J (by kernel_rfl) J J J J J) (Az (Ap 10 J J J J (by kernel_rfl) J J J) (Ae ?_))))))))
   exact ⟨rn [(9, 100), (0, 102)], ⟨⟨⟨_, J, VLe.rf⟩, O⟩, ⟨⟨_, J, by first | exact BLe.rf | exact AE (by rw [hno]; first | done | rfl)⟩, ⟨_, J, by first | exact BLe.rf | exact AE (by rw [hno]; first | done | rfl)⟩, ⟨_, J, by first | exact BLe.rf | (refine BLe.arr ?_; rw [hno]; first | done | rfl)⟩, O⟩, ⟨⟨J, .inl nofun, fun _ _ => ⟨_, J⟩⟩, O⟩, J⟩⟩
 try simp only [tdy] at h13
 have hnt : CP (AA tk e st) = false := by simp [CP, FG, h9, h13]
 refine Ab J (A8 (A8 (Bw J (Az (A0 J J) ?_))))
 refine Dk (Aj J J J (Hr tk e st hm hi) J J J J) (fun b26 h26 => ?_)
 refine Az (A0 J J) ?_
 cases b26
 · try simp only [tdy] at h26
   have hop := Ie h26
   refine A3 J J J J (A3 J J J J (A3 J J J J (A3 J J J J (A3 J J J J (A3 J J J J (A3 J J J J (A3 J J J J (A3 J J J J (A3 J J J J (A3 J J J J (Az (AD J J J) (Az (A0 J J) (A3 J J J J (A3 J J J J (A3 J J J J (A3 J J J J (A3 J J J J (A3 J J J J (A3 J J J J (A3 J J J J (A3 J J J J (A3 J J J J (A3 J J J J ?_)))))))))))))))))))))))
   refine A3 J J J J (A3 J J J J (Az (AD J J J) (Az (A0 J J) (A3 J J J J (A3 J J J J (A3 J J J J (A3 J J J J (A3 J J J J (A3 J J J J (A3 J J J J (A3 J J J J (A3 J J J J (A3 J J J J (A3 J J J J (A3 J J J J (A3 J J J J (Az (AD J J J) (Bj (by kernel_rfl) ?_))))))))))))))))))
   refine Ab J (Aa (Az (Al [.int .i64 0, .string ⟨#[]⟩, .slice none 0 0, .int .i64 0, .string ⟨#[]⟩, .int .i64 0, .string ⟨#[]⟩, .string ⟨#[]⟩, .int .i64 0, .string ⟨#[]⟩] [(0, 1), (1, 2), (3, 1), (4, 3), (7, 3)] J (by kernel_rfl) J J J J J) (Az (Aw (.agg #[.int .i64 0, .string ⟨#[]⟩, .slice none 0 0, .int .i64 0, .string ⟨#[]⟩, .int .i64 0, .string ⟨#[]⟩, .string ⟨#[]⟩, .int .i64 0, .string ⟨#[]⟩]) 104 J (by kernel_rfl) J J J J) (Az (Ap 10 J J J J (by kernel_rfl) J J J) (Ad (Az (A0 J J) (Az (Aj J J J (Cr tk e st hm hi) J J J J) (Az (Ao 4 4 J J J (by kernel_rfl) J) (Az (Ap 3 J J J J (by kernel_rfl) J J J) (Ad (Az (A0 J J) (Az (Aj J J J (Di tk e (AM tk e false st).2 hm (B5 hi)) J J J J) (Az (Ap 4 J J J J (by kernel_rfl) J J J) (A2 (A8 (Aa (Az (Ao 0 0 J J J (by kernel_rfl) J) (Az (A4 J J J (by kernel_rfl) J) ?_))))))))))))))))))
   refine Bd (AR J J J) (fun b81 h81 => ?_)
   refine A2 ?_
   cases b81
   · try simp only [tdy] at h81
     have ho2 : opI (AA tk e (AM tk e false st).2) = _ := if_neg h81
     refine Ab J (A8 (Aa (Az (Ao 3 3 J J J (by kernel_rfl) J) (Az (A4 J J J (by kernel_rfl) J) ?_))))
     refine Bd (BI J J J) (fun b88 h88 => ?_)
     refine A2 ?_
     cases b88
     rotate_left
     · try simp only [tdy] at h88
       have hno := CF hnt hop (by rw [ho2]; omega)
       rw [ho2] at hno
       refine A5 J (Aa (Az (A0 J J) (Az (Aj J J J (BZ tk e (AM tk e false st).2 hm (B5 hi) 6) J J J J) (Ad (Az (Au 10 J J J (by kernel_rfl) J J) (Az (Ap 10 J J J J (by kernel_rfl) J J J) (A2 (Be (T := 46) (e := Bx) 105 100 2 J J J J J ?_))))))))
       refine AU ?_
       exact ⟨rn [(9, 100), (0, 105)], ⟨⟨⟨_, J, VLe.rf⟩, O⟩, ⟨⟨_, J, by first | exact BLe.rf | exact AE (by rw [hno]; first | done | rfl)⟩, ⟨_, J, by first | exact BLe.rf | exact AE (by rw [hno]; first | done | rfl)⟩, ⟨_, J, by first | exact BLe.rf | (refine BLe.arr ?_; rw [hno]; first | done | rfl)⟩, O⟩, ⟨⟨J, .inl nofun, fun _ _ => ⟨_, J⟩⟩, O⟩, J⟩⟩
     try simp only [tdy] at h88
     have hlt := Ca (F4 (tk := tk) (e := e) (st := (AM tk e false st).2) (by rw [ho2]; omega))
     have hlt2 : (AM tk e false st).2.i < tk.length := hlt
     have hno := CE hnt hop (by rw [ho2]; omega)
     rw [ho2] at hno
     refine Ab J (Aa (Az (A0 J J) (Az (AI J J J) (Az (Ao 1 1 J J J (by kernel_rfl) J) (Az (A4 J J J (by kernel_rfl) J) ?_)))))
     refine Az (Bl J J J (IntWalk.i64_in _ (by omega))) ?_
     refine Az (AI J J J) (Az (Ao 1 1 J J J (by kernel_rfl) J) (Az (Ap 1 J J J J (by kernel_rfl) J J J) (Ad (Az (A0 J J) (Az (Aj J J J (Cr tk e (AM tk e false st).2.next hm hlt) J J J J) (Az (Ao 7 7 J J J (by kernel_rfl) J) (Az (Ap 3 J J J J (by kernel_rfl) J J J) (Ad (Az (Au 10 J J J (by kernel_rfl) J J) (Az (Ap 10 J J J J (by kernel_rfl) J J J) (A2 (Be (T := 46) (e := Bx) 105 100 2 J J J J J ?_))))))))))))
     refine AU ?_
     exact ⟨rn [(9, 100), (0, 105)], ⟨⟨⟨_, J, VLe.rf⟩, O⟩, ⟨⟨_, J, by first | exact BLe.rf | exact AE (by rw [hno]; first | done | rfl)⟩, ⟨_, J, by first | exact BLe.rf | exact AE (by rw [hno]; first | done | rfl)⟩, ⟨_, J, by first | exact BLe.rf | (refine BLe.arr ?_; rw [hno]; first | done | rfl)⟩, O⟩, ⟨⟨J, .inl nofun, fun _ _ => ⟨_, J⟩⟩, O⟩, J⟩⟩
   try simp only [tdy] at h81
   have ho2 : opI (AA tk e (AM tk e false st).2) = _ := if_pos h81
   refine A5 J (AG (Az (Ao 2 2 J J J (by kernel_rfl) J) (Az (A4 J J J (by kernel_rfl) J) (Az (AS J J J (Gu _) J J) (Az (Ao 3 3 J J J (by kernel_rfl) J) (Az (Ap 1 J J J J (by kernel_rfl) J J J) (A2 (A8 (Aa (Az (Ao 3 3 J J J (by kernel_rfl) J) (Az (A4 J J J (by kernel_rfl) J) ?_)))))))))))
   refine Bd (BI J J J) (fun b88 h88 => ?_)
   refine A2 ?_
   cases b88
   rotate_left
   · try simp only [tdy] at h88
     have hno := CF hnt hop (by rw [ho2]; omega)
     rw [ho2] at hno
     refine A5 J (Aa (Az (A0 J J) (Az (Aj J J J (BZ tk e (AM tk e false st).2 hm (B5 hi) 6) J J J J) (Ad (Az (Au 10 J J J (by kernel_rfl) J J) (Az (Ap 10 J J J J (by kernel_rfl) J J J) (A2 (Be (T := 46) (e := Bx) 105 100 2 J J J J J ?_))))))))
     refine AU ?_
     exact ⟨rn [(9, 100), (0, 105)], ⟨⟨⟨_, J, VLe.rf⟩, O⟩, ⟨⟨_, J, by first | exact BLe.rf | exact AE (by rw [hno]; first | done | rfl)⟩, ⟨_, J, by first | exact BLe.rf | exact AE (by rw [hno]; first | done | rfl)⟩, ⟨_, J, by first | exact BLe.rf | (refine BLe.arr ?_; rw [hno]; first | done | rfl)⟩, O⟩, ⟨⟨J, .inl nofun, fun _ _ => ⟨_, J⟩⟩, O⟩, J⟩⟩
   try simp only [tdy] at h88
   have hlt := Ca (F4 (tk := tk) (e := e) (st := (AM tk e false st).2) (by rw [ho2]; omega))
   have hlt2 : (AM tk e false st).2.i < tk.length := hlt
   have hno := CE hnt hop (by rw [ho2]; omega)
   rw [ho2] at hno
   refine Ab J (Aa (Az (A0 J J) (Az (AI J J J) (Az (Ao 1 1 J J J (by kernel_rfl) J) (Az (A4 J J J (by kernel_rfl) J) ?_)))))
   refine Az (Bl J J J (IntWalk.i64_in _ (by omega))) ?_
   refine Az (AI J J J) (Az (Ao 1 1 J J J (by kernel_rfl) J) (Az (Ap 1 J J J J (by kernel_rfl) J J J) (Ad (Az (A0 J J) (Az (Aj J J J (Cr tk e (AM tk e false st).2.next hm hlt) J J J J) (Az (Ao 7 7 J J J (by kernel_rfl) J) (Az (Ap 3 J J J J (by kernel_rfl) J J J) (Ad (Az (Au 10 J J J (by kernel_rfl) J J) (Az (Ap 10 J J J J (by kernel_rfl) J J J) (A2 (Be (T := 46) (e := Bx) 105 100 2 J J J J J ?_))))))))))))
   refine AU ?_
   exact ⟨rn [(9, 100), (0, 105)], ⟨⟨⟨_, J, VLe.rf⟩, O⟩, ⟨⟨_, J, by first | exact BLe.rf | exact AE (by rw [hno]; first | done | rfl)⟩, ⟨_, J, by first | exact BLe.rf | exact AE (by rw [hno]; first | done | rfl)⟩, ⟨_, J, by first | exact BLe.rf | (refine BLe.arr ?_; rw [hno]; first | done | rfl)⟩, O⟩, ⟨⟨J, .inl nofun, fun _ _ => ⟨_, J⟩⟩, O⟩, J⟩⟩
 try simp only [tdy] at h26
 refine AB J J (A0 J J) (AB J J (AI J J J) (AB J J (Ao 1 1 J J J (by kernel_rfl) J) (AB J J (A4 J J J (by kernel_rfl) J) ?_)))
 refine AB J J (Bl J J J (IntWalk.i64_in _ (by omega))) ?_
 refine AB J J (A0 J J) (AB J J (AI J J J) (AB J J (Ao 0 0 J J J (by kernel_rfl) J) (AB J J (A4 J J J (by kernel_rfl) J) (AB J J (Ak 62 4 J J (by kernel_rfl)) ?_))))
 refine Bh J J (BI J J J) (fun b38 h38 => ?_)
 refine Az (AJ J J J) (Az (A0 J J) ?_)
 cases b38
 · try simp only [tdy] at h38
   have hop := open_end h26 (by omega)
   refine A3 J J J J (A3 J J J J (A3 J J J J (A3 J J J J (A3 J J J J (A3 J J J J (A3 J J J J (A3 J J J J (A3 J J J J (A3 J J J J (A3 J J J J (A3 J J J J (A3 J J J J (Az (AD J J J) (Az (A0 J J) (A3 J J J J (A3 J J J J (A3 J J J J (A3 J J J J (A3 J J J J (A3 J J J J (A3 J J J J (A3 J J J J (A3 J J J J ?_)))))))))))))))))))))))
   refine A3 J J J J (A3 J J J J (A3 J J J J (A3 J J J J (Az (AD J J J) (Bj (by kernel_rfl) ?_)))))
   refine Ab J (Aa (Az (Al [.int .i64 0, .string ⟨#[]⟩, .slice none 0 0, .int .i64 0, .string ⟨#[]⟩, .int .i64 0, .string ⟨#[]⟩, .string ⟨#[]⟩, .int .i64 0, .string ⟨#[]⟩] [(0, 1), (1, 2), (3, 1), (4, 3), (7, 3)] J (by kernel_rfl) J J J J J) (Az (Aw (.agg #[.int .i64 0, .string ⟨#[]⟩, .slice none 0 0, .int .i64 0, .string ⟨#[]⟩, .int .i64 0, .string ⟨#[]⟩, .string ⟨#[]⟩, .int .i64 0, .string ⟨#[]⟩]) 104 J (by kernel_rfl) J J J J) (Az (Ap 10 J J J J (by kernel_rfl) J J J) (Ad (Az (A0 J J) (Az (Aj J J J (Cr tk e st hm hi) J J J J) (Az (Ao 4 4 J J J (by kernel_rfl) J) (Az (Ap 3 J J J J (by kernel_rfl) J J J) (Ad (Az (A0 J J) (Az (Aj J J J (Di tk e (AM tk e false st).2 hm (B5 hi)) J J J J) (Az (Ap 4 J J J J (by kernel_rfl) J J J) (A2 (A8 (Aa (Az (Ao 0 0 J J J (by kernel_rfl) J) (Az (A4 J J J (by kernel_rfl) J) ?_))))))))))))))))))
   refine Bd (AR J J J) (fun b81 h81 => ?_)
   refine A2 ?_
   cases b81
   · try simp only [tdy] at h81
     have ho2 : opI (AA tk e (AM tk e false st).2) = _ := if_neg h81
     refine Ab J (A8 (Aa (Az (Ao 3 3 J J J (by kernel_rfl) J) (Az (A4 J J J (by kernel_rfl) J) ?_))))
     refine Bd (BI J J J) (fun b88 h88 => ?_)
     refine A2 ?_
     cases b88
     rotate_left
     · try simp only [tdy] at h88
       have hno := CF hnt hop (by rw [ho2]; omega)
       rw [ho2] at hno
       refine A5 J (Aa (Az (A0 J J) (Az (Aj J J J (BZ tk e (AM tk e false st).2 hm (B5 hi) 6) J J J J) (Ad (Az (Au 10 J J J (by kernel_rfl) J J) (Az (Ap 10 J J J J (by kernel_rfl) J J J) (A2 (Be (T := 46) (e := Bx) 105 100 2 J J J J J ?_))))))))
       refine AU ?_
       exact ⟨rn [(9, 100), (0, 105)], ⟨⟨⟨_, J, VLe.rf⟩, O⟩, ⟨⟨_, J, by first | exact BLe.rf | exact AE (by rw [hno]; first | done | rfl)⟩, ⟨_, J, by first | exact BLe.rf | exact AE (by rw [hno]; first | done | rfl)⟩, ⟨_, J, by first | exact BLe.rf | (refine BLe.arr ?_; rw [hno]; first | done | rfl)⟩, O⟩, ⟨⟨J, .inl nofun, fun _ _ => ⟨_, J⟩⟩, O⟩, J⟩⟩
     try simp only [tdy] at h88
     have hlt := Ca (F4 (tk := tk) (e := e) (st := (AM tk e false st).2) (by rw [ho2]; omega))
     have hlt2 : (AM tk e false st).2.i < tk.length := hlt
     have hno := CE hnt hop (by rw [ho2]; omega)
     rw [ho2] at hno
     refine Ab J (Aa (Az (A0 J J) (Az (AI J J J) (Az (Ao 1 1 J J J (by kernel_rfl) J) (Az (A4 J J J (by kernel_rfl) J) ?_)))))
     refine Az (Bl J J J (IntWalk.i64_in _ (by omega))) ?_
     refine Az (AI J J J) (Az (Ao 1 1 J J J (by kernel_rfl) J) (Az (Ap 1 J J J J (by kernel_rfl) J J J) (Ad (Az (A0 J J) (Az (Aj J J J (Cr tk e (AM tk e false st).2.next hm hlt) J J J J) (Az (Ao 7 7 J J J (by kernel_rfl) J) (Az (Ap 3 J J J J (by kernel_rfl) J J J) (Ad (Az (Au 10 J J J (by kernel_rfl) J J) (Az (Ap 10 J J J J (by kernel_rfl) J J J) (A2 (Be (T := 46) (e := Bx) 105 100 2 J J J J J ?_))))))))))))
     refine AU ?_
     exact ⟨rn [(9, 100), (0, 105)], ⟨⟨⟨_, J, VLe.rf⟩, O⟩, ⟨⟨_, J, by first | exact BLe.rf | exact AE (by rw [hno]; first | done | rfl)⟩, ⟨_, J, by first | exact BLe.rf | exact AE (by rw [hno]; first | done | rfl)⟩, ⟨_, J, by first | exact BLe.rf | (refine BLe.arr ?_; rw [hno]; first | done | rfl)⟩, O⟩, ⟨⟨J, .inl nofun, fun _ _ => ⟨_, J⟩⟩, O⟩, J⟩⟩
   try simp only [tdy] at h81
   have ho2 : opI (AA tk e (AM tk e false st).2) = _ := if_pos h81
   refine A5 J (AG (Az (Ao 2 2 J J J (by kernel_rfl) J) (Az (A4 J J J (by kernel_rfl) J) (Az (AS J J J (Gu _) J J) (Az (Ao 3 3 J J J (by kernel_rfl) J) (Az (Ap 1 J J J J (by kernel_rfl) J J J) (A2 (A8 (Aa (Az (Ao 3 3 J J J (by kernel_rfl) J) (Az (A4 J J J (by kernel_rfl) J) ?_)))))))))))
   refine Bd (BI J J J) (fun b88 h88 => ?_)
   refine A2 ?_
   cases b88
   rotate_left
   · try simp only [tdy] at h88
     have hno := CF hnt hop (by rw [ho2]; omega)
     rw [ho2] at hno
     refine A5 J (Aa (Az (A0 J J) (Az (Aj J J J (BZ tk e (AM tk e false st).2 hm (B5 hi) 6) J J J J) (Ad (Az (Au 10 J J J (by kernel_rfl) J J) (Az (Ap 10 J J J J (by kernel_rfl) J J J) (A2 (Be (T := 46) (e := Bx) 105 100 2 J J J J J ?_))))))))
     refine AU ?_
     exact ⟨rn [(9, 100), (0, 105)], ⟨⟨⟨_, J, VLe.rf⟩, O⟩, ⟨⟨_, J, by first | exact BLe.rf | exact AE (by rw [hno]; first | done | rfl)⟩, ⟨_, J, by first | exact BLe.rf | exact AE (by rw [hno]; first | done | rfl)⟩, ⟨_, J, by first | exact BLe.rf | (refine BLe.arr ?_; rw [hno]; first | done | rfl)⟩, O⟩, ⟨⟨J, .inl nofun, fun _ _ => ⟨_, J⟩⟩, O⟩, J⟩⟩
   try simp only [tdy] at h88
   have hlt := Ca (F4 (tk := tk) (e := e) (st := (AM tk e false st).2) (by rw [ho2]; omega))
   have hlt2 : (AM tk e false st).2.i < tk.length := hlt
   have hno := CE hnt hop (by rw [ho2]; omega)
   rw [ho2] at hno
   refine Ab J (Aa (Az (A0 J J) (Az (AI J J J) (Az (Ao 1 1 J J J (by kernel_rfl) J) (Az (A4 J J J (by kernel_rfl) J) ?_)))))
   refine Az (Bl J J J (IntWalk.i64_in _ (by omega))) ?_
   refine Az (AI J J J) (Az (Ao 1 1 J J J (by kernel_rfl) J) (Az (Ap 1 J J J J (by kernel_rfl) J J J) (Ad (Az (A0 J J) (Az (Aj J J J (Cr tk e (AM tk e false st).2.next hm hlt) J J J J) (Az (Ao 7 7 J J J (by kernel_rfl) J) (Az (Ap 3 J J J J (by kernel_rfl) J J J) (Ad (Az (Au 10 J J J (by kernel_rfl) J J) (Az (Ap 10 J J J J (by kernel_rfl) J J J) (A2 (Be (T := 46) (e := Bx) 105 100 2 J J J J J ?_))))))))))))
   refine AU ?_
   exact ⟨rn [(9, 100), (0, 105)], ⟨⟨⟨_, J, VLe.rf⟩, O⟩, ⟨⟨_, J, by first | exact BLe.rf | exact AE (by rw [hno]; first | done | rfl)⟩, ⟨_, J, by first | exact BLe.rf | exact AE (by rw [hno]; first | done | rfl)⟩, ⟨_, J, by first | exact BLe.rf | (refine BLe.arr ?_; rw [hno]; first | done | rfl)⟩, O⟩, ⟨⟨J, .inl nofun, fun _ _ => ⟨_, J⟩⟩, O⟩, J⟩⟩
 try simp only [tdy] at h38
 refine AB J J (A0 J J) (AB J J (AI J J J) (AB J J (Ao 0 0 J J J (by kernel_rfl) J) (AB J J (A4 J J J (by kernel_rfl) J) (AB J J (A0 J J) (AB J J (AI J J J) (AB J J (Ao 1 1 J J J (by kernel_rfl) J) (AB J J (A4 J J J (by kernel_rfl) J) ?_)))))))
 refine AB J J (Bl J J J (IntWalk.i64_in _ (by omega))) ?_
 refine AB J J (Am 62 4 (st.i + 1) J J J (by kernel_rfl) J (by omega) (by omega)) ?_
 refine AB J J (CM (off := 0) (o' := 0) J J (by kernel_rfl) J) (AB J J (BW J J (by kernel_rfl) J) ?_)
 refine Bh J J (AR J J J) (fun b53 h53 => ?_)
 refine Az (AJ J J J) (Az (A0 J J) ?_)
 cases b53
 · try simp only [tdy] at h53
   have hop : CW tk e st = false := (Ig h26 (by omega)).trans (by simp [Bt, h53])
   refine A3 J J J J (A3 J J J J (A3 J J J J (A3 J J J J (A3 J J J J (A3 J J J J (A3 J J J J (A3 J J J J (A3 J J J J (A3 J J J J (A3 J J J J (A3 J J J J (A3 J J J J (Az (AD J J J) (Bj (by kernel_rfl) ?_))))))))))))))
   refine Ab J (Aa (Az (Al [.int .i64 0, .string ⟨#[]⟩, .slice none 0 0, .int .i64 0, .string ⟨#[]⟩, .int .i64 0, .string ⟨#[]⟩, .string ⟨#[]⟩, .int .i64 0, .string ⟨#[]⟩] [(0, 1), (1, 2), (3, 1), (4, 3), (7, 3)] J (by kernel_rfl) J J J J J) (Az (Aw (.agg #[.int .i64 0, .string ⟨#[]⟩, .slice none 0 0, .int .i64 0, .string ⟨#[]⟩, .int .i64 0, .string ⟨#[]⟩, .string ⟨#[]⟩, .int .i64 0, .string ⟨#[]⟩]) 104 J (by kernel_rfl) J J J J) (Az (Ap 10 J J J J (by kernel_rfl) J J J) (Ad (Az (A0 J J) (Az (Aj J J J (Cr tk e st hm hi) J J J J) (Az (Ao 4 4 J J J (by kernel_rfl) J) (Az (Ap 3 J J J J (by kernel_rfl) J J J) (Ad (Az (A0 J J) (Az (Aj J J J (Di tk e (AM tk e false st).2 hm (B5 hi)) J J J J) (Az (Ap 4 J J J J (by kernel_rfl) J J J) (A2 (A8 (Aa (Az (Ao 0 0 J J J (by kernel_rfl) J) (Az (A4 J J J (by kernel_rfl) J) ?_))))))))))))))))))
   refine Bd (AR J J J) (fun b81 h81 => ?_)
   refine A2 ?_
   cases b81
   · try simp only [tdy] at h81
     have ho2 : opI (AA tk e (AM tk e false st).2) = _ := if_neg h81
     refine Ab J (A8 (Aa (Az (Ao 3 3 J J J (by kernel_rfl) J) (Az (A4 J J J (by kernel_rfl) J) ?_))))
     refine Bd (BI J J J) (fun b88 h88 => ?_)
     refine A2 ?_
     cases b88
     rotate_left
     · try simp only [tdy] at h88
       have hno := CF hnt hop (by rw [ho2]; omega)
       rw [ho2] at hno
       refine A5 J (Aa (Az (A0 J J) (Az (Aj J J J (BZ tk e (AM tk e false st).2 hm (B5 hi) 6) J J J J) (Ad (Az (Au 10 J J J (by kernel_rfl) J J) (Az (Ap 10 J J J J (by kernel_rfl) J J J) (A2 (Be (T := 46) (e := Bx) 105 100 2 J J J J J ?_))))))))
       refine AU ?_
       exact ⟨rn [(9, 100), (0, 105)], ⟨⟨⟨_, J, VLe.rf⟩, O⟩, ⟨⟨_, J, by first | exact BLe.rf | exact AE (by rw [hno]; first | done | rfl)⟩, ⟨_, J, by first | exact BLe.rf | exact AE (by rw [hno]; first | done | rfl)⟩, ⟨_, J, by first | exact BLe.rf | (refine BLe.arr ?_; rw [hno]; first | done | rfl)⟩, O⟩, ⟨⟨J, .inl nofun, fun _ _ => ⟨_, J⟩⟩, O⟩, J⟩⟩
     try simp only [tdy] at h88
     have hlt := Ca (F4 (tk := tk) (e := e) (st := (AM tk e false st).2) (by rw [ho2]; omega))
     have hlt2 : (AM tk e false st).2.i < tk.length := hlt
     have hno := CE hnt hop (by rw [ho2]; omega)
     rw [ho2] at hno
     refine Ab J (Aa (Az (A0 J J) (Az (AI J J J) (Az (Ao 1 1 J J J (by kernel_rfl) J) (Az (A4 J J J (by kernel_rfl) J) ?_)))))
     refine Az (Bl J J J (IntWalk.i64_in _ (by omega))) ?_
     refine Az (AI J J J) (Az (Ao 1 1 J J J (by kernel_rfl) J) (Az (Ap 1 J J J J (by kernel_rfl) J J J) (Ad (Az (A0 J J) (Az (Aj J J J (Cr tk e (AM tk e false st).2.next hm hlt) J J J J) (Az (Ao 7 7 J J J (by kernel_rfl) J) (Az (Ap 3 J J J J (by kernel_rfl) J J J) (Ad (Az (Au 10 J J J (by kernel_rfl) J J) (Az (Ap 10 J J J J (by kernel_rfl) J J J) (A2 (Be (T := 46) (e := Bx) 105 100 2 J J J J J ?_))))))))))))
     refine AU ?_
     exact ⟨rn [(9, 100), (0, 105)], ⟨⟨⟨_, J, VLe.rf⟩, O⟩, ⟨⟨_, J, by first | exact BLe.rf | exact AE (by rw [hno]; first | done | rfl)⟩, ⟨_, J, by first | exact BLe.rf | exact AE (by rw [hno]; first | done | rfl)⟩, ⟨_, J, by first | exact BLe.rf | (refine BLe.arr ?_; rw [hno]; first | done | rfl)⟩, O⟩, ⟨⟨J, .inl nofun, fun _ _ => ⟨_, J⟩⟩, O⟩, J⟩⟩
   try simp only [tdy] at h81
   have ho2 : opI (AA tk e (AM tk e false st).2) = _ := if_pos h81
   refine A5 J (AG (Az (Ao 2 2 J J J (by kernel_rfl) J) (Az (A4 J J J (by kernel_rfl) J) (Az (AS J J J (Gu _) J J) (Az (Ao 3 3 J J J (by kernel_rfl) J) (Az (Ap 1 J J J J (by kernel_rfl) J J J) (A2 (A8 (Aa (Az (Ao 3 3 J J J (by kernel_rfl) J) (Az (A4 J J J (by kernel_rfl) J) ?_)))))))))))
   refine Bd (BI J J J) (fun b88 h88 => ?_)
   refine A2 ?_
   cases b88
   rotate_left
   · try simp only [tdy] at h88
     have hno := CF hnt hop (by rw [ho2]; omega)
     rw [ho2] at hno
     refine A5 J (Aa (Az (A0 J J) (Az (Aj J J J (BZ tk e (AM tk e false st).2 hm (B5 hi) 6) J J J J) (Ad (Az (Au 10 J J J (by kernel_rfl) J J) (Az (Ap 10 J J J J (by kernel_rfl) J J J) (A2 (Be (T := 46) (e := Bx) 105 100 2 J J J J J ?_))))))))
     refine AU ?_
     exact ⟨rn [(9, 100), (0, 105)], ⟨⟨⟨_, J, VLe.rf⟩, O⟩, ⟨⟨_, J, by first | exact BLe.rf | exact AE (by rw [hno]; first | done | rfl)⟩, ⟨_, J, by first | exact BLe.rf | exact AE (by rw [hno]; first | done | rfl)⟩, ⟨_, J, by first | exact BLe.rf | (refine BLe.arr ?_; rw [hno]; first | done | rfl)⟩, O⟩, ⟨⟨J, .inl nofun, fun _ _ => ⟨_, J⟩⟩, O⟩, J⟩⟩
   try simp only [tdy] at h88
   have hlt := Ca (F4 (tk := tk) (e := e) (st := (AM tk e false st).2) (by rw [ho2]; omega))
   have hlt2 : (AM tk e false st).2.i < tk.length := hlt
   have hno := CE hnt hop (by rw [ho2]; omega)
   rw [ho2] at hno
   refine Ab J (Aa (Az (A0 J J) (Az (AI J J J) (Az (Ao 1 1 J J J (by kernel_rfl) J) (Az (A4 J J J (by kernel_rfl) J) ?_)))))
   refine Az (Bl J J J (IntWalk.i64_in _ (by omega))) ?_
   refine Az (AI J J J) (Az (Ao 1 1 J J J (by kernel_rfl) J) (Az (Ap 1 J J J J (by kernel_rfl) J J J) (Ad (Az (A0 J J) (Az (Aj J J J (Cr tk e (AM tk e false st).2.next hm hlt) J J J J) (Az (Ao 7 7 J J J (by kernel_rfl) J) (Az (Ap 3 J J J J (by kernel_rfl) J J J) (Ad (Az (Au 10 J J J (by kernel_rfl) J J) (Az (Ap 10 J J J J (by kernel_rfl) J J J) (A2 (Be (T := 46) (e := Bx) 105 100 2 J J J J J ?_))))))))))))
   refine AU ?_
   exact ⟨rn [(9, 100), (0, 105)], ⟨⟨⟨_, J, VLe.rf⟩, O⟩, ⟨⟨_, J, by first | exact BLe.rf | exact AE (by rw [hno]; first | done | rfl)⟩, ⟨_, J, by first | exact BLe.rf | exact AE (by rw [hno]; first | done | rfl)⟩, ⟨_, J, by first | exact BLe.rf | (refine BLe.arr ?_; rw [hno]; first | done | rfl)⟩, O⟩, ⟨⟨J, .inl nofun, fun _ _ => ⟨_, J⟩⟩, O⟩, J⟩⟩
 try simp only [tdy] at h53
 refine AB J J (A0 J J) (AB J J (AI J J J) (AB J J (Ao 0 0 J J J (by kernel_rfl) J) (AB J J (A4 J J J (by kernel_rfl) J) (AB J J (A0 J J) (AB J J (AI J J J) (AB J J (Ao 1 1 J J J (by kernel_rfl) J) (AB J J (A4 J J J (by kernel_rfl) J) ?_)))))))
 refine AB J J (Bl J J J (IntWalk.i64_in _ (by omega))) ?_
 refine AB J J (Am 62 4 (st.i + 1) J J J (by kernel_rfl) J (by omega) (by omega)) ?_
 refine AB J J (CM (off := 2) (o' := 2) J J (by kernel_rfl) J) (AB J J (BW J J (by kernel_rfl) J) ?_)
 refine Bh J J (DH J J J) (fun b68 h68 => ?_)
 refine Az (AJ J J J) (Bj (by kernel_rfl) ?_)
 cases b68
 rotate_left
 · try simp only [tdy] at h68
   have hop : CW tk e st = true := (Ig h26 (by omega)).trans (by simp [Bt, h53, h68])
   have hno := litI_is hnt hop
   refine A5 J (Aa (Az (A0 J J) (Az (Av [] [(200, some _)] [(200, some _), (103, some _)] J J J (GS tk e st hm hi 103 J) J AllV.rf (BE J) J J J ⟨J, O⟩ J) (Az (Al [.int .i64 0, .string ⟨#[]⟩, .slice none 0 0, .int .i64 0, .string ⟨#[]⟩, .int .i64 0, .string ⟨#[]⟩, .string ⟨#[]⟩, .int .i64 0, .string ⟨#[]⟩] [(0, 1), (1, 2), (3, 1), (4, 3), (7, 3)] J (by kernel_rfl) J J J J J) (Az (Ap 10 J J J J (by kernel_rfl) J J J) (Ae ?_))))))
   exact ⟨rn [(9, 100), (0, 103)], ⟨⟨⟨_, J, VLe.rf⟩, O⟩, ⟨⟨_, J, by first | exact BLe.rf | exact AE (by rw [hno]; first | done | rfl)⟩, ⟨_, J, by first | exact BLe.rf | exact AE (by rw [hno]; first | done | rfl)⟩, ⟨_, J, by first | exact BLe.rf | (refine BLe.arr ?_; rw [hno]; first | done | rfl)⟩, O⟩, ⟨⟨J, .inl nofun, fun _ _ => ⟨_, J⟩⟩, O⟩, J⟩⟩
 try simp only [tdy] at h68
 have hop : CW tk e st = false := (Ig h26 (by omega)).trans (by simp [Bt, h53, h68])
 refine Ab J (Aa (Az (Al [.int .i64 0, .string ⟨#[]⟩, .slice none 0 0, .int .i64 0, .string ⟨#[]⟩, .int .i64 0, .string ⟨#[]⟩, .string ⟨#[]⟩, .int .i64 0, .string ⟨#[]⟩] [(0, 1), (1, 2), (3, 1), (4, 3), (7, 3)] J (by kernel_rfl) J J J J J) (Az (Aw (.agg #[.int .i64 0, .string ⟨#[]⟩, .slice none 0 0, .int .i64 0, .string ⟨#[]⟩, .int .i64 0, .string ⟨#[]⟩, .string ⟨#[]⟩, .int .i64 0, .string ⟨#[]⟩]) 104 J (by kernel_rfl) J J J J) (Az (Ap 10 J J J J (by kernel_rfl) J J J) (Ad (Az (A0 J J) (Az (Aj J J J (Cr tk e st hm hi) J J J J) (Az (Ao 4 4 J J J (by kernel_rfl) J) (Az (Ap 3 J J J J (by kernel_rfl) J J J) (Ad (Az (A0 J J) (Az (Aj J J J (Di tk e (AM tk e false st).2 hm (B5 hi)) J J J J) (Az (Ap 4 J J J J (by kernel_rfl) J J J) (A2 (A8 (Aa (Az (Ao 0 0 J J J (by kernel_rfl) J) (Az (A4 J J J (by kernel_rfl) J) ?_))))))))))))))))))
 refine Bd (AR J J J) (fun b81 h81 => ?_)
 refine A2 ?_
 cases b81
 · try simp only [tdy] at h81
   have ho2 : opI (AA tk e (AM tk e false st).2) = _ := if_neg h81
   refine Ab J (A8 (Aa (Az (Ao 3 3 J J J (by kernel_rfl) J) (Az (A4 J J J (by kernel_rfl) J) ?_))))
   refine Bd (BI J J J) (fun b88 h88 => ?_)
   refine A2 ?_
   cases b88
   rotate_left
   · try simp only [tdy] at h88
     have hno := CF hnt hop (by rw [ho2]; omega)
     rw [ho2] at hno
     refine A5 J (Aa (Az (A0 J J) (Az (Aj J J J (BZ tk e (AM tk e false st).2 hm (B5 hi) 6) J J J J) (Ad (Az (Au 10 J J J (by kernel_rfl) J J) (Az (Ap 10 J J J J (by kernel_rfl) J J J) (A2 (Be (T := 46) (e := Bx) 105 100 2 J J J J J ?_))))))))
     refine AU ?_
     exact ⟨rn [(9, 100), (0, 105)], ⟨⟨⟨_, J, VLe.rf⟩, O⟩, ⟨⟨_, J, by first | exact BLe.rf | exact AE (by rw [hno]; first | done | rfl)⟩, ⟨_, J, by first | exact BLe.rf | exact AE (by rw [hno]; first | done | rfl)⟩, ⟨_, J, by first | exact BLe.rf | (refine BLe.arr ?_; rw [hno]; first | done | rfl)⟩, O⟩, ⟨⟨J, .inl nofun, fun _ _ => ⟨_, J⟩⟩, O⟩, J⟩⟩
   try simp only [tdy] at h88
   have hlt := Ca (F4 (tk := tk) (e := e) (st := (AM tk e false st).2) (by rw [ho2]; omega))
   have hlt2 : (AM tk e false st).2.i < tk.length := hlt
   have hno := CE hnt hop (by rw [ho2]; omega)
   rw [ho2] at hno
   refine Ab J (Aa (Az (A0 J J) (Az (AI J J J) (Az (Ao 1 1 J J J (by kernel_rfl) J) (Az (A4 J J J (by kernel_rfl) J) ?_)))))
   refine Az (Bl J J J (IntWalk.i64_in _ (by omega))) ?_
   refine Az (AI J J J) (Az (Ao 1 1 J J J (by kernel_rfl) J) (Az (Ap 1 J J J J (by kernel_rfl) J J J) (Ad (Az (A0 J J) (Az (Aj J J J (Cr tk e (AM tk e false st).2.next hm hlt) J J J J) (Az (Ao 7 7 J J J (by kernel_rfl) J) (Az (Ap 3 J J J J (by kernel_rfl) J J J) (Ad (Az (Au 10 J J J (by kernel_rfl) J J) (Az (Ap 10 J J J J (by kernel_rfl) J J J) (A2 (Be (T := 46) (e := Bx) 105 100 2 J J J J J ?_))))))))))))
   refine AU ?_
   exact ⟨rn [(9, 100), (0, 105)], ⟨⟨⟨_, J, VLe.rf⟩, O⟩, ⟨⟨_, J, by first | exact BLe.rf | exact AE (by rw [hno]; first | done | rfl)⟩, ⟨_, J, by first | exact BLe.rf | exact AE (by rw [hno]; first | done | rfl)⟩, ⟨_, J, by first | exact BLe.rf | (refine BLe.arr ?_; rw [hno]; first | done | rfl)⟩, O⟩, ⟨⟨J, .inl nofun, fun _ _ => ⟨_, J⟩⟩, O⟩, J⟩⟩
 try simp only [tdy] at h81
 have ho2 : opI (AA tk e (AM tk e false st).2) = _ := if_pos h81
 refine A5 J (AG (Az (Ao 2 2 J J J (by kernel_rfl) J) (Az (A4 J J J (by kernel_rfl) J) (Az (AS J J J (Gu _) J J) (Az (Ao 3 3 J J J (by kernel_rfl) J) (Az (Ap 1 J J J J (by kernel_rfl) J J J) (A2 (A8 (Aa (Az (Ao 3 3 J J J (by kernel_rfl) J) (Az (A4 J J J (by kernel_rfl) J) ?_)))))))))))
 refine Bd (BI J J J) (fun b88 h88 => ?_)
 refine A2 ?_
 cases b88
 rotate_left
 · try simp only [tdy] at h88
   have hno := CF hnt hop (by rw [ho2]; omega)
   rw [ho2] at hno
   refine A5 J (Aa (Az (A0 J J) (Az (Aj J J J (BZ tk e (AM tk e false st).2 hm (B5 hi) 6) J J J J) (Ad (Az (Au 10 J J J (by kernel_rfl) J J) (Az (Ap 10 J J J J (by kernel_rfl) J J J) (A2 (Be (T := 46) (e := Bx) 105 100 2 J J J J J ?_))))))))
   refine AU ?_
   exact ⟨rn [(9, 100), (0, 105)], ⟨⟨⟨_, J, VLe.rf⟩, O⟩, ⟨⟨_, J, by first | exact BLe.rf | exact AE (by rw [hno]; first | done | rfl)⟩, ⟨_, J, by first | exact BLe.rf | exact AE (by rw [hno]; first | done | rfl)⟩, ⟨_, J, by first | exact BLe.rf | (refine BLe.arr ?_; rw [hno]; first | done | rfl)⟩, O⟩, ⟨⟨J, .inl nofun, fun _ _ => ⟨_, J⟩⟩, O⟩, J⟩⟩
 try simp only [tdy] at h88
 have hlt := Ca (F4 (tk := tk) (e := e) (st := (AM tk e false st).2) (by rw [ho2]; omega))
 have hlt2 : (AM tk e false st).2.i < tk.length := hlt
 have hno := CE hnt hop (by rw [ho2]; omega)
 rw [ho2] at hno
 refine Ab J (Aa (Az (A0 J J) (Az (AI J J J) (Az (Ao 1 1 J J J (by kernel_rfl) J) (Az (A4 J J J (by kernel_rfl) J) ?_)))))
 refine Az (Bl J J J (IntWalk.i64_in _ (by omega))) ?_
 refine Az (AI J J J) (Az (Ao 1 1 J J J (by kernel_rfl) J) (Az (Ap 1 J J J J (by kernel_rfl) J J J) (Ad (Az (A0 J J) (Az (Aj J J J (Cr tk e (AM tk e false st).2.next hm hlt) J J J J) (Az (Ao 7 7 J J J (by kernel_rfl) J) (Az (Ap 3 J J J J (by kernel_rfl) J J J) (Ad (Az (Au 10 J J J (by kernel_rfl) J J) (Az (Ap 10 J J J J (by kernel_rfl) J J J) (A2 (Be (T := 46) (e := Bx) 105 100 2 J J J J J ?_))))))))))))
 refine AU ?_
 exact ⟨rn [(9, 100), (0, 105)], ⟨⟨⟨_, J, VLe.rf⟩, O⟩, ⟨⟨_, J, by first | exact BLe.rf | exact AE (by rw [hno]; first | done | rfl)⟩, ⟨_, J, by first | exact BLe.rf | exact AE (by rw [hno]; first | done | rfl)⟩, ⟨_, J, by first | exact BLe.rf | (refine BLe.arr ?_; rw [hno]; first | done | rfl)⟩, O⟩, ⟨⟨J, .inl nofun, fun _ _ => ⟨_, J⟩⟩, O⟩, J⟩⟩

theorem pLitI_c (tk : List Tokent) (e : Int) (st : PS) (hm : tk.length ≤ 1048576) (hi : st.i ≤ tk.length) (k : Nat) (hk : Nat.beq k 200 = false) : AC Tryz.prog 79 [.one (.ptr 200 0)] [(200, some (psB tk e st))] (.agg (litK (CQ tk e st).1 k)) [(200, some (psB tk e (CQ tk e st).2)), (k, some (.arr 46 Bx (CQ tk e st).1.atom.args true))] := AC.ps (pLitI_c0 tk e st hm hi) k hk (fun r h => litK_ren h) (fun _ => rfl)

set_option maxHeartbeats 4000000 in
theorem pBodyI_c0 (tk : List Tokent) (e : Int) (st : PS) (hm : tk.length ≤ 1048576) (hi : st.i ≤ tk.length) : AC Tryz.prog 53 [.one (.ptr 200 0)] [(200, some (psB tk e st))] (.one (.own 0)) [(200, some (psB tk e (CU tk e 10 st []).2)), (0, some (.arr 48 DI (CU tk e 10 st []).1 true))] := by
 refine Bn Tryz.func53 J J Tryz.ntmps53 J Tryz.results53 ?_
 refine Aa (Az (A1 J J) (Ad (Az (Hh (E := 48) (e := DI) 100 J J J (by kernel_rfl)) (Az (A1 J J) (A2 (A8 (AZ ?_)))))))
 refine B8 (ι := {q : PS × List Litt // ((q.1).i ≤ tk.length ∧ (q.2).length ≤ 8) ∧ CU tk e (10 - (q.2).length) (q.1) (q.2) = CU tk e 10 st []}) (fun p => [(3, .one (.own 100))]) (fun p => [(100, some (.arr 48 DI (p.1.2) true)), (200, some (psB tk e (p.1.1)))]) [0] [] (fun p => 9 - (p.1.2).length) ⟨⟨st, []⟩, ⟨⟨hi, by simp⟩, J⟩⟩ (rn []) ?_ ?_
 exact Ag (by repeat first | exact trivial | refine Ah J (by first | exact VLe.rf | exact A7 (by dsimp only; omega)) ?_) (by repeat first | exact trivial | refine Ai J (by first | exact BLe.rf | exact BLe.box AllC.rf | exact BLe.arr (by exact J)) ?_) J J
 rintro ⟨⟨st1, a⟩, hinv⟩
 dsimp only
 have hi1 : st1.i ≤ tk.length := hinv.1.1
 have hl : a.length ≤ 8 := hinv.1.2
 refine A8 (Aa (Az (A0 J J) (Az (AI J J J) (Az (Ao 3 3 J J J (by kernel_rfl) J) (Az (A4 J J J (by kernel_rfl) J) ?_)))))
 refine Bd (AR J J J) (fun b10 h10 => ?_)
 refine A2 ?_
 cases b10
 · try simp only [tdy] at h10
   have hno := hinv.2.symm.trans (bodyI_bad h10)
   refine Bc J ?_
   refine Br (B2 ?_)
   refine Aa (Az (A0 J J) (Az (A1 J J) (Ae ?_)))
   exact ⟨rn [(0, 100)], ⟨⟨⟨_, J, VLe.rf⟩, O⟩, ⟨⟨_, J, by first | exact BLe.rf | exact AE (by rw [hno]; first | done | rfl)⟩, ⟨_, J, by first | exact BLe.rf | (refine BLe.arr ?_; rw [hno]; first | done | rfl)⟩, O⟩, ⟨⟨J, .inl nofun, fun _ _ => ⟨_, J⟩⟩, O⟩, J⟩⟩
 try simp only [tdy] at h10
 refine A5 J (AP (AZ (A8 (Aa (Az (A0 J J) ?_)))))
 refine Dk (Aj J J J (pStarts_c tk e st1 hm hi1) J J J J) (fun b12 h12 => ?_)
 refine Az (A0 J J) ?_
 cases b12
 · try simp only [tdy] at h12
   have hnf : ¬ (BL (AA tk e st1) = true ∧ (a.length : Int) = 8) := fun q => by rw [h12] at q; cases q.1
   refine A3 J J J J (A3 J J J J (A3 J J J J (Az (AD J J J) (A2 (Ab J (Aa (Az (A0 J J) (Az (Av [] [(200, some _)] [(200, some _), (101, some _)] J J J (pLitI_c tk e st1 hm hi1 101 J) J AllV.rf (BE J) J J J ⟨J, O⟩ J) (Az (Aw (.agg #[.int .i64 0, .string ⟨#[]⟩, .slice none 0 0, .int .i64 0, .string ⟨#[]⟩, .int .i64 0, .string ⟨#[]⟩, .string ⟨#[]⟩, .int .i64 0, .string ⟨#[]⟩]) 102 J (by kernel_rfl) J J J J) (Az (Ap 10 J J J J (by kernel_rfl) J J J) (Ad (Az (A0 J J) (Az (Au 10 J J J (by kernel_rfl) J J) (Az (Aq DI 48 [.tmp 23] ([(CQ tk e st1).1]) 103 J J J J J J J J FitL.rf J J J J J J (by kernel_rfl)) ?_))))))))))))))
   refine Az (B9 104 J J J J J J J J (by kernel_rfl) (by simp only [List.length_append, List.length_cons, List.length_nil]; omega)) ?_
   refine Az (A1 J J) (A2 (A8 (Aa (Az (A0 J J) ?_))))
   refine Dk (Aj J J J (Dg tk e (CQ tk e st1).2 hm (litI_le hi1) ⟨#[44]⟩) J J J J) (fun b27 h27 => ?_)
   refine Az (Cn J J) (A2 ?_)
   cases b27
   · try simp only [tdy] at h27
     have hno := hinv.2.symm.trans (body_last h10 hnf hl h27)
     refine A5 J ?_
     refine Br (G5 J (B2 ?_))
     refine Aa (Az (A0 J J) (Az (A1 J J) (Ae ?_)))
     exact ⟨rn [(0, 104)], ⟨⟨⟨_, J, VLe.rf⟩, O⟩, ⟨⟨_, J, by first | exact BLe.rf | exact AE (by rw [hno]; first | done | rfl)⟩, ⟨_, J, by first | exact BLe.rf | (refine BLe.arr ?_; rw [hno]; first | done | rfl)⟩, O⟩, ⟨⟨J, .inl nofun, fun _ _ => ⟨_, J⟩⟩, O⟩, J⟩⟩
   try simp only [tdy] at h27
   have hmo := body_more h10 hnf hl h27
   have hlt := hmo.2.1
   have hmo1 := hmo.1
   refine Ab J (AG (Az (A0 J J) (Az (AI J J J) (Az (Ao 1 1 J J J (by kernel_rfl) J) (Az (A4 J J J (by kernel_rfl) J) ?_)))))
   refine Az (Bl J J J (IntWalk.i64_in _ (by omega))) ?_
   refine Az (AI J J J) (Az (Ao 1 1 J J J (by kernel_rfl) J) (Az (Ap 1 J J J J (by kernel_rfl) J J J) (A2 ?_)))
   refine ⟨⟨⟨(CQ tk e st1).2.next, a ++ [(CQ tk e st1).1]⟩, ⟨⟨hlt, by simp only [List.length_append, List.length_cons, List.length_nil]; omega⟩, hmo.2.2.trans hinv.2⟩⟩, rn [(100, 104)], ?_, by dsimp only; simp only [List.length_append, List.length_cons, List.length_nil]; omega⟩
   exact Ag (by repeat first | exact trivial | refine Ah J (by first | exact VLe.rf | exact A7 (by dsimp only; omega)) ?_) (by repeat first | exact trivial | refine Ai J (by first | exact BLe.rf | exact BLe.box AllC.rf | exact BLe.arr (by exact J)) ?_) J J
 try simp only [tdy] at h12
 refine AB J J (A0 J J) (AB J J (Ax 48 10 J J J (by kernel_rfl)) ?_)
 refine Bh J J (AR J J J) (fun b16 h16 => ?_)
 refine Az (AJ J J J) (A2 ?_)
 cases b16
 rotate_left
 · try simp only [tdy] at h16
   have hno := hinv.2.symm.trans (body_full h10 h12 h16)
   refine A5 J (Aa (Az (A0 J J) (Az (Aj J J J (BZ tk e st1 hm hi1 7) J J J J) (A2 ?_))))
   refine Br (G5 J (B2 ?_))
   refine Aa (Az (A0 J J) (Az (A1 J J) (Ae ?_)))
   exact ⟨rn [(0, 100)], ⟨⟨⟨_, J, VLe.rf⟩, O⟩, ⟨⟨_, J, by first | exact BLe.rf | exact AE (by rw [hno]; first | done | rfl)⟩, ⟨_, J, by first | exact BLe.rf | (refine BLe.arr ?_; rw [hno]; first | done | rfl)⟩, O⟩, ⟨⟨J, .inl nofun, fun _ _ => ⟨_, J⟩⟩, O⟩, J⟩⟩
 try simp only [tdy] at h16
 have hnf : ¬ (BL (AA tk e st1) = true ∧ (a.length : Int) = 8) := fun q => h16 q.2
 refine Ab J (Aa (Az (A0 J J) (Az (Av [] [(200, some _)] [(200, some _), (101, some _)] J J J (pLitI_c tk e st1 hm hi1 101 J) J AllV.rf (BE J) J J J ⟨J, O⟩ J) (Az (Aw (.agg #[.int .i64 0, .string ⟨#[]⟩, .slice none 0 0, .int .i64 0, .string ⟨#[]⟩, .int .i64 0, .string ⟨#[]⟩, .string ⟨#[]⟩, .int .i64 0, .string ⟨#[]⟩]) 102 J (by kernel_rfl) J J J J) (Az (Ap 10 J J J J (by kernel_rfl) J J J) (Ad (Az (A0 J J) (Az (Au 10 J J J (by kernel_rfl) J J) (Az (Aq DI 48 [.tmp 23] ([(CQ tk e st1).1]) 103 J J J J J J J J FitL.rf J J J J J J (by kernel_rfl)) ?_)))))))))
 refine Az (B9 104 J J J J J J J J (by kernel_rfl) (by simp only [List.length_append, List.length_cons, List.length_nil]; omega)) ?_
 refine Az (A1 J J) (A2 (A8 (Aa (Az (A0 J J) ?_))))
 refine Dk (Aj J J J (Dg tk e (CQ tk e st1).2 hm (litI_le hi1) ⟨#[44]⟩) J J J J) (fun b27 h27 => ?_)
 refine Az (Cn J J) (A2 ?_)
 cases b27
 · try simp only [tdy] at h27
   have hno := hinv.2.symm.trans (body_last h10 hnf hl h27)
   refine A5 J ?_
   refine Br (G5 J (B2 ?_))
   refine Aa (Az (A0 J J) (Az (A1 J J) (Ae ?_)))
   exact ⟨rn [(0, 104)], ⟨⟨⟨_, J, VLe.rf⟩, O⟩, ⟨⟨_, J, by first | exact BLe.rf | exact AE (by rw [hno]; first | done | rfl)⟩, ⟨_, J, by first | exact BLe.rf | (refine BLe.arr ?_; rw [hno]; first | done | rfl)⟩, O⟩, ⟨⟨J, .inl nofun, fun _ _ => ⟨_, J⟩⟩, O⟩, J⟩⟩
 try simp only [tdy] at h27
 have hmo := body_more h10 hnf hl h27
 have hlt := hmo.2.1
 have hmo1 := hmo.1
 refine Ab J (AG (Az (A0 J J) (Az (AI J J J) (Az (Ao 1 1 J J J (by kernel_rfl) J) (Az (A4 J J J (by kernel_rfl) J) ?_)))))
 refine Az (Bl J J J (IntWalk.i64_in _ (by omega))) ?_
 refine Az (AI J J J) (Az (Ao 1 1 J J J (by kernel_rfl) J) (Az (Ap 1 J J J J (by kernel_rfl) J J J) (A2 ?_)))
 refine ⟨⟨⟨(CQ tk e st1).2.next, a ++ [(CQ tk e st1).1]⟩, ⟨⟨hlt, by simp only [List.length_append, List.length_cons, List.length_nil]; omega⟩, hmo.2.2.trans hinv.2⟩⟩, rn [(100, 104)], ?_, by dsimp only; simp only [List.length_append, List.length_cons, List.length_nil]; omega⟩
 exact Ag (by repeat first | exact trivial | refine Ah J (by first | exact VLe.rf | exact A7 (by dsimp only; omega)) ?_) (by repeat first | exact trivial | refine Ai J (by first | exact BLe.rf | exact BLe.box AllC.rf | exact BLe.arr (by exact J)) ?_) J J

theorem pBodyI_c (tk : List Tokent) (e : Int) (st : PS) (hm : tk.length ≤ 1048576) (hi : st.i ≤ tk.length) (k : Nat) (hk : Nat.beq k 200 = false) : AC Tryz.prog 53 [.one (.ptr 200 0)] [(200, some (psB tk e st))] (.one (.own k)) [(200, some (psB tk e (CU tk e 10 st []).2)), (k, some (.arr 48 DI (CU tk e 10 st []).1 true))] := AC.ps (pBodyI_c0 tk e st hm hi) k hk (fun r h => ownK_ren h) (fun _ => rfl)

set_option maxHeartbeats 4000000 in
theorem pRuleI_c0 (tk : List Tokent) (e : Int) (st : PS) (hm : tk.length ≤ 1048576) (hi : st.i ≤ tk.length) : AC Tryz.prog 24 [.one (.ptr 200 0)] [(200, some (psB tk e st))] (.agg (ruleO (C6 tk e st).1)) [(200, some (psB tk e (C6 tk e st).2)), (0, some (.arr 46 Bx (C6 tk e st).1.head.args true)), (1, some (.arr 48 DI (C6 tk e st).1.body true))] := by
 refine En (n := 4) (k := 9) (T := [(2, .one (.ptr 9 0))]) (Lf := ((9, some (.box (ruleO (C6 tk e st).1))) :: [(200, some (psB tk e (C6 tk e st).2)), (0, some (.arr 46 Bx (C6 tk e st).1.head.args true)), (1, some (.arr 48 DI (C6 tk e st).1.body true))])) Tryz.func24 J J Tryz.ntmps24 J Tryz.results24 J J (by kernel_rfl) J J ⟨O, (by repeat (first | exact trivial | refine ⟨⟨_, J, BLe.rf⟩, ?_⟩)), (Af J), J⟩ ?_
 refine Aa (Az (Aw (.agg #[.int .i64 0, .string ⟨#[]⟩, .slice none 0 0, .slice none 0 0]) 100 J (by kernel_rfl) J J J J) (Ad (Az (Al [.int .i64 0, .string ⟨#[]⟩, .slice none 0 0, .slice none 0 0] [(0, 1), (1, 2), (3, 1)] J (by kernel_rfl) J J J J J) (Az (Aw (.agg #[.int .i64 0, .string ⟨#[]⟩, .slice none 0 0, .slice none 0 0]) 101 J (by kernel_rfl) J J J J) (Az (Ap 4 J J J J (by kernel_rfl) J J J) (A2 (A8 (AZ (Aa (Az (A0 J J) ?_))))))))))
 refine Dk (Aj J J J (Dg tk e st hm hi ⟨#[43]⟩) J J J J) (fun b7 h7 => ?_)
 refine Az (A1 J J) (A2 ?_)
 cases b7
 rotate_left
 · try simp only [tdy] at h7
   have hp := plus_plus h7
   have hs0 := Ca (Ck h7)
   have hlt := Ck h7
   have ha := Gk (e := e) hs0
   refine A5 J (Aa (Az (Ao 0 0 J J J (by kernel_rfl) J) (Az (Ap 1 J J J J (by kernel_rfl) J J J) (A2 (AG (Az (A0 J J) (Az (AI J J J) (Az (Ao 1 1 J J J (by kernel_rfl) J) (Az (A4 J J J (by kernel_rfl) J) ?_)))))))))
   refine Az (Bl J J J (IntWalk.i64_in _ (by omega))) ?_
   refine Az (AI J J J) (Az (Ao 1 1 J J J (by kernel_rfl) J) (Az (Ap 1 J J J J (by kernel_rfl) J J J) (Ad (Az (A0 J J) (Az (Av [] [(200, some _)] [(200, some _), (102, some _)] J J J (GS tk e _ hm hs0 102 J) J AllV.rf (BE J) J J J ⟨J, O⟩ J) (Az (Ao 1 1 J J J (by kernel_rfl) J) (Az (Ap 2 J J J J (by kernel_rfl) J J J) (A2 (A8 (Aa (Az (A0 J J) ?_)))))))))))
   refine Dk (Aj J J J (Dg tk e _ hm ha ⟨#[58, 45]⟩) J J J J) (fun b31 h31 => ?_)
   refine A2 ?_
   cases b31
   · try simp only [tdy] at h31
     have hno := GQ hp h31
     have hi2 := ha
     refine Ab J (Aa (Az (A0 J J) (Az (Aj J J J (DL tk e _ hm hi2 ⟨#[46]⟩) J J J J) (Ad (Az (Au 4 J J J (by kernel_rfl) J J) (Az (Ap 4 J J J J (by kernel_rfl) J J J) (A2 (Be (T := 48) (e := DI) 104 100 3 J J J J J ?_))))))))
     refine AU ?_
     exact ⟨rn [(9, 100), (0, 102), (1, 104)], ⟨⟨⟨_, J, VLe.rf⟩, O⟩, ⟨⟨_, J, by first | exact BLe.rf | exact AE (by rw [hno]; first | done | rfl)⟩, ⟨_, J, by first | exact BLe.rf | exact AE (by rw [hno]; first | done | rfl)⟩, ⟨_, J, by first | exact BLe.rf | (refine BLe.arr ?_; rw [hno]; first | done | rfl)⟩, ⟨_, J, by first | exact BLe.rf | (refine BLe.arr ?_; rw [hno]; first | done | rfl)⟩, O⟩, ⟨⟨J, .inl nofun, fun _ _ => ⟨_, J⟩⟩, O⟩, J⟩⟩
   try simp only [tdy] at h31
   have hno := GP hp h31
   have hb0 := Ca (Ck h31)
   have hlt2 := Ck h31
   have hi2 := I1 (e := e) 10 _ [] hb0
   refine A5 J (Aa (Az (A0 J J) (Az (AI J J J) (Az (Ao 1 1 J J J (by kernel_rfl) J) (Az (A4 J J J (by kernel_rfl) J) ?_)))))
   refine Az (Bl J J J (IntWalk.i64_in _ (by omega))) ?_
   refine Az (AI J J J) (Az (Ao 1 1 J J J (by kernel_rfl) J) (Az (Ap 1 J J J J (by kernel_rfl) J J J) (A2 (AG (Az (A0 J J) (Az (Av [] [(200, some _)] [(200, some _), (103, some _)] J J J (pBodyI_c tk e _ hm hb0 103 J) J AllV.rf (BE J) J J J ⟨J, O⟩ J) (Az (Ao 3 3 J J J (by kernel_rfl) J) (Az (Ap 1 J J J J (by kernel_rfl) J J J) (Ad (Az (A0 J J) (Az (Aj J J J (DL tk e _ hm hi2 ⟨#[46]⟩) J J J J) (Ad (Az (Au 4 J J J (by kernel_rfl) J J) (Az (Ap 4 J J J J (by kernel_rfl) J J J) (Ae ?_)))))))))))))))
   exact ⟨rn [(9, 100), (0, 102), (1, 103)], ⟨⟨⟨_, J, VLe.rf⟩, O⟩, ⟨⟨_, J, by first | exact BLe.rf | exact AE (by rw [hno]; first | done | rfl)⟩, ⟨_, J, by first | exact BLe.rf | exact AE (by rw [hno]; first | done | rfl)⟩, ⟨_, J, by first | exact BLe.rf | (refine BLe.arr ?_; rw [hno]; first | done | rfl)⟩, ⟨_, J, by first | exact BLe.rf | (refine BLe.arr ?_; rw [hno]; first | done | rfl)⟩, O⟩, ⟨⟨J, .inl nofun, fun _ _ => ⟨_, J⟩⟩, O⟩, J⟩⟩
 try simp only [tdy] at h7
 refine Bc J (Aa (Az (A0 J J) ?_))
 refine Dk (Aj J J J (Dg tk e st hm hi ⟨#[45]⟩) J J J J) (fun b18 h18 => ?_)
 refine Az (A1 J J) (A2 ?_)
 cases b18
 · try simp only [tdy] at h18
   have hp := I6 h7 h18
   have hs0 := hi
   have ha := Gk (e := e) hs0
   refine Ab J (Aa (Az (A0 J J) (Az (Av [] [(200, some _)] [(200, some _), (102, some _)] J J J (GS tk e _ hm hs0 102 J) J AllV.rf (BE J) J J J ⟨J, O⟩ J) (Az (Ao 1 1 J J J (by kernel_rfl) J) (Az (Ap 2 J J J J (by kernel_rfl) J J J) (A2 (A8 (Aa (Az (A0 J J) ?_)))))))))
   refine Dk (Aj J J J (Dg tk e _ hm ha ⟨#[58, 45]⟩) J J J J) (fun b31 h31 => ?_)
   refine A2 ?_
   cases b31
   · try simp only [tdy] at h31
     have hno := GQ hp h31
     have hi2 := ha
     refine Ab J (Aa (Az (A0 J J) (Az (Aj J J J (DL tk e _ hm hi2 ⟨#[46]⟩) J J J J) (Ad (Az (Au 4 J J J (by kernel_rfl) J J) (Az (Ap 4 J J J J (by kernel_rfl) J J J) (A2 (Be (T := 48) (e := DI) 104 100 3 J J J J J ?_))))))))
     refine AU ?_
     exact ⟨rn [(9, 100), (0, 102), (1, 104)], ⟨⟨⟨_, J, VLe.rf⟩, O⟩, ⟨⟨_, J, by first | exact BLe.rf | exact AE (by rw [hno]; first | done | rfl)⟩, ⟨_, J, by first | exact BLe.rf | exact AE (by rw [hno]; first | done | rfl)⟩, ⟨_, J, by first | exact BLe.rf | (refine BLe.arr ?_; rw [hno]; first | done | rfl)⟩, ⟨_, J, by first | exact BLe.rf | (refine BLe.arr ?_; rw [hno]; first | done | rfl)⟩, O⟩, ⟨⟨J, .inl nofun, fun _ _ => ⟨_, J⟩⟩, O⟩, J⟩⟩
   try simp only [tdy] at h31
   have hno := GP hp h31
   have hb0 := Ca (Ck h31)
   have hlt2 := Ck h31
   have hi2 := I1 (e := e) 10 _ [] hb0
   refine A5 J (Aa (Az (A0 J J) (Az (AI J J J) (Az (Ao 1 1 J J J (by kernel_rfl) J) (Az (A4 J J J (by kernel_rfl) J) ?_)))))
   refine Az (Bl J J J (IntWalk.i64_in _ (by omega))) ?_
   refine Az (AI J J J) (Az (Ao 1 1 J J J (by kernel_rfl) J) (Az (Ap 1 J J J J (by kernel_rfl) J J J) (A2 (AG (Az (A0 J J) (Az (Av [] [(200, some _)] [(200, some _), (103, some _)] J J J (pBodyI_c tk e _ hm hb0 103 J) J AllV.rf (BE J) J J J ⟨J, O⟩ J) (Az (Ao 3 3 J J J (by kernel_rfl) J) (Az (Ap 1 J J J J (by kernel_rfl) J J J) (Ad (Az (A0 J J) (Az (Aj J J J (DL tk e _ hm hi2 ⟨#[46]⟩) J J J J) (Ad (Az (Au 4 J J J (by kernel_rfl) J J) (Az (Ap 4 J J J J (by kernel_rfl) J J J) (Ae ?_)))))))))))))))
   exact ⟨rn [(9, 100), (0, 102), (1, 103)], ⟨⟨⟨_, J, VLe.rf⟩, O⟩, ⟨⟨_, J, by first | exact BLe.rf | exact AE (by rw [hno]; first | done | rfl)⟩, ⟨_, J, by first | exact BLe.rf | exact AE (by rw [hno]; first | done | rfl)⟩, ⟨_, J, by first | exact BLe.rf | (refine BLe.arr ?_; rw [hno]; first | done | rfl)⟩, ⟨_, J, by first | exact BLe.rf | (refine BLe.arr ?_; rw [hno]; first | done | rfl)⟩, O⟩, ⟨⟨J, .inl nofun, fun _ _ => ⟨_, J⟩⟩, O⟩, J⟩⟩
 try simp only [tdy] at h18
 have hp := plus_minus h7 h18
 have hs0 := Ca (Ck h18)
 have hlt := Ck h18
 have ha := Gk (e := e) hs0
 refine A5 J (Aa (Az (Ao 0 0 J J J (by kernel_rfl) J) (Az (Ap 1 J J J J (by kernel_rfl) J J J) (A2 (AG (Az (A0 J J) (Az (AI J J J) (Az (Ao 1 1 J J J (by kernel_rfl) J) (Az (A4 J J J (by kernel_rfl) J) ?_)))))))))
 refine Az (Bl J J J (IntWalk.i64_in _ (by omega))) ?_
 refine Az (AI J J J) (Az (Ao 1 1 J J J (by kernel_rfl) J) (Az (Ap 1 J J J J (by kernel_rfl) J J J) (Ad (Az (A0 J J) (Az (Av [] [(200, some _)] [(200, some _), (102, some _)] J J J (GS tk e _ hm hs0 102 J) J AllV.rf (BE J) J J J ⟨J, O⟩ J) (Az (Ao 1 1 J J J (by kernel_rfl) J) (Az (Ap 2 J J J J (by kernel_rfl) J J J) (A2 (A8 (Aa (Az (A0 J J) ?_)))))))))))
 refine Dk (Aj J J J (Dg tk e _ hm ha ⟨#[58, 45]⟩) J J J J) (fun b31 h31 => ?_)
 refine A2 ?_
 cases b31
 · try simp only [tdy] at h31
   have hno := GQ hp h31
   have hi2 := ha
   refine Ab J (Aa (Az (A0 J J) (Az (Aj J J J (DL tk e _ hm hi2 ⟨#[46]⟩) J J J J) (Ad (Az (Au 4 J J J (by kernel_rfl) J J) (Az (Ap 4 J J J J (by kernel_rfl) J J J) (A2 (Be (T := 48) (e := DI) 104 100 3 J J J J J ?_))))))))
   refine AU ?_
   exact ⟨rn [(9, 100), (0, 102), (1, 104)], ⟨⟨⟨_, J, VLe.rf⟩, O⟩, ⟨⟨_, J, by first | exact BLe.rf | exact AE (by rw [hno]; first | done | rfl)⟩, ⟨_, J, by first | exact BLe.rf | exact AE (by rw [hno]; first | done | rfl)⟩, ⟨_, J, by first | exact BLe.rf | (refine BLe.arr ?_; rw [hno]; first | done | rfl)⟩, ⟨_, J, by first | exact BLe.rf | (refine BLe.arr ?_; rw [hno]; first | done | rfl)⟩, O⟩, ⟨⟨J, .inl nofun, fun _ _ => ⟨_, J⟩⟩, O⟩, J⟩⟩
 try simp only [tdy] at h31
 have hno := GP hp h31
 have hb0 := Ca (Ck h31)
 have hlt2 := Ck h31
 have hi2 := I1 (e := e) 10 _ [] hb0
 refine A5 J (Aa (Az (A0 J J) (Az (AI J J J) (Az (Ao 1 1 J J J (by kernel_rfl) J) (Az (A4 J J J (by kernel_rfl) J) ?_)))))
 refine Az (Bl J J J (IntWalk.i64_in _ (by omega))) ?_
 refine Az (AI J J J) (Az (Ao 1 1 J J J (by kernel_rfl) J) (Az (Ap 1 J J J J (by kernel_rfl) J J J) (A2 (AG (Az (A0 J J) (Az (Av [] [(200, some _)] [(200, some _), (103, some _)] J J J (pBodyI_c tk e _ hm hb0 103 J) J AllV.rf (BE J) J J J ⟨J, O⟩ J) (Az (Ao 3 3 J J J (by kernel_rfl) J) (Az (Ap 1 J J J J (by kernel_rfl) J J J) (Ad (Az (A0 J J) (Az (Aj J J J (DL tk e _ hm hi2 ⟨#[46]⟩) J J J J) (Ad (Az (Au 4 J J J (by kernel_rfl) J J) (Az (Ap 4 J J J J (by kernel_rfl) J J J) (Ae ?_)))))))))))))))
 exact ⟨rn [(9, 100), (0, 102), (1, 103)], ⟨⟨⟨_, J, VLe.rf⟩, O⟩, ⟨⟨_, J, by first | exact BLe.rf | exact AE (by rw [hno]; first | done | rfl)⟩, ⟨_, J, by first | exact BLe.rf | exact AE (by rw [hno]; first | done | rfl)⟩, ⟨_, J, by first | exact BLe.rf | (refine BLe.arr ?_; rw [hno]; first | done | rfl)⟩, ⟨_, J, by first | exact BLe.rf | (refine BLe.arr ?_; rw [hno]; first | done | rfl)⟩, O⟩, ⟨⟨J, .inl nofun, fun _ _ => ⟨_, J⟩⟩, O⟩, J⟩⟩

theorem pRuleI_c (tk : List Tokent) (e : Int) (st : PS) (hm : tk.length ≤ 1048576) (hi : st.i ≤ tk.length) (k j : Nat) (hk : Nat.beq k 200 = false) (hj : Nat.beq j 200 = false) (hkj : Nat.beq k j = false) (hjk : Nat.beq j k = false) : AC Tryz.prog 24 [.one (.ptr 200 0)] [(200, some (psB tk e st))] (.agg (ruleK (C6 tk e st).1 k j)) [(200, some (psB tk e (C6 tk e st).2)), (k, some (.arr 46 Bx (C6 tk e st).1.head.args true)), (j, some (.arr 48 DI (C6 tk e st).1.body true))] := AC.ps2 (pRuleI_c0 tk e st hm hi) k j hk hj hkj hjk (fun r h h2 => ruleK_ren h h2) (fun _ => rfl) (fun _ => rfl)

set_option maxHeartbeats 4000000 in
theorem pDeclI_c (tk : List Tokent) (e : Int) (st : PS) (hm : tk.length ≤ 1048576) (hi : st.i < tk.length) (c : Int) : AC Tryz.prog 23 [.one (.ptr 200 0), .one (.c (.int .i64 (c)))] [(200, some (psB tk e st))] (.agg (declC (CT tk e c st).1)) [(200, some (psB tk e (CT tk e c st).2))] := by
 have h1 := Ca hi
 have h2 := slash_le (e := e) h1
 refine En (n := 3) (k := 9) (T := [(4, .one (.ptr 9 0))]) (Lf := ((9, some (.box (declC (CT tk e c st).1))) :: [(200, some (psB tk e (CT tk e c st).2))])) Tryz.func23 J J Tryz.ntmps23 J Tryz.results23 J J (by kernel_rfl) J J ⟨O, (by repeat (first | exact trivial | refine ⟨⟨_, J, BLe.rf⟩, ?_⟩)), (Af J), J⟩ ?_
 refine Aa (Az (Aw (.agg #[.int .i64 0, .string ⟨#[]⟩, .int .i64 0]) 100 J (by kernel_rfl) J J J J) (Ad (Az (A0 J J) (Az (Al [.int .i64 0, .string ⟨#[]⟩, .int .i64 0] [(0, 1), (1, 1), (2, 1)] J (by kernel_rfl) J J J J J) (Az (Aw (.agg #[.int .i64 0, .string ⟨#[]⟩, .int .i64 0]) 101 J (by kernel_rfl) J J J J) (Az (Ap 3 J J J J (by kernel_rfl) J J J) (Ad (Az (A0 J J) (Az (AI J J J) (Az (Ao 1 1 J J J (by kernel_rfl) J) (Az (A4 J J J (by kernel_rfl) J) ?_)))))))))))
 refine Az (Bl J J J (IntWalk.i64_in _ (by omega))) ?_
 refine Az (AI J J J) (Az (Ao 1 1 J J J (by kernel_rfl) J) (Az (Ap 1 J J J J (by kernel_rfl) J J J) (Ad (Az (A0 J J) (Az (Aj J J J (pName_c tk e st.next hm h1) J J J J) (Az (Ao 1 1 J J J (by kernel_rfl) J) (Az (Ap 1 J J J J (by kernel_rfl) J J J) (Ad (Az (A0 J J) (Az (Aj J J J (DL tk e (BK tk e st.next).2 hm (HS h1) ⟨#[47]⟩) J J J J) (Ad (Az (A0 J J) (Az (Aj J J J (Di tk e (BB tk e st.next) hm (h2)) J J J J) (Az (Aw (.agg #[.int .i64 0, .int .i64 0, .string ⟨#[]⟩, .int .i64 0]) 102 J (by kernel_rfl) J J J J) (Az (Ap 4 J J J J (by kernel_rfl) J J J) (A2 (A8 (AZ (Aa (Az (Ao 0 0 J J J (by kernel_rfl) J) (Az (A4 J J J (by kernel_rfl) J) ?_)))))))))))))))))))))
 refine Bd (EK J J J) (fun b36 h36 => ?_)
 refine Az (A1 J J) (A2 ?_)
 cases b36
 rotate_left
 · try simp only [tdy] at h36
   have hno := declI_no (k := c) h36
   have hi2 := Cm (e := e) (c := 6) h2
   refine A5 J (AG (Az (A0 J J) (Az (Aj J J J (BZ tk e (BB tk e st.next) hm h2 6) J J J J) (Ad (Az (A0 J J) (Az (Aj J J J (DL tk e _ hm hi2 ⟨#[46]⟩) J J J J) (Ad (Az (Au 3 J J J (by kernel_rfl) J J) (Az (Ap 3 J J J J (by kernel_rfl) J J J) (Ae ?_))))))))))
   exact ⟨rn [(9, 100)], ⟨⟨⟨_, J, VLe.rf⟩, O⟩, ⟨⟨_, J, by first | exact BLe.rf | exact AE (by rw [hno]; first | done | rfl)⟩, ⟨_, J, by first | exact BLe.rf | exact AE (by rw [hno]; first | done | rfl)⟩, O⟩, ⟨⟨J, .inl nofun, fun _ _ => ⟨_, J⟩⟩, O⟩, J⟩⟩
 try simp only [tdy] at h36
 have hlt := num_lt h36
 refine Bc J (Aa (Az (Ao 1 1 J J J (by kernel_rfl) J) (Az (A4 J J J (by kernel_rfl) J) ?_)))
 refine Bd (CC J J J) (fun b42 h42 => ?_)
 refine Az (A1 J J) (A2 ?_)
 cases b42
 rotate_left
 · try simp only [tdy] at h42
   have hno := declI_big (k := c) h36 h42
   have hi2 := Cm (e := e) (c := 7) h2
   refine A5 J (AG (Az (A0 J J) (Az (Aj J J J (BZ tk e (BB tk e st.next) hm h2 7) J J J J) (Ad (Az (A0 J J) (Az (Aj J J J (DL tk e _ hm hi2 ⟨#[46]⟩) J J J J) (Ad (Az (Au 3 J J J (by kernel_rfl) J J) (Az (Ap 3 J J J J (by kernel_rfl) J J J) (Ae ?_))))))))))
   exact ⟨rn [(9, 100)], ⟨⟨⟨_, J, VLe.rf⟩, O⟩, ⟨⟨_, J, by first | exact BLe.rf | exact AE (by rw [hno]; first | done | rfl)⟩, ⟨_, J, by first | exact BLe.rf | exact AE (by rw [hno]; first | done | rfl)⟩, O⟩, ⟨⟨J, .inl nofun, fun _ _ => ⟨_, J⟩⟩, O⟩, J⟩⟩
 try simp only [tdy] at h42
 have hno := declI_ok (k := c) h36 (by omega)
 have hi2 := Ca hlt
 refine Bc J (Aa (Az (Ao 1 1 J J J (by kernel_rfl) J) (Az (A4 J J J (by kernel_rfl) J) (Az (Ao 2 2 J J J (by kernel_rfl) J) (Az (Ap 1 J J J J (by kernel_rfl) J J J) (A2 (AG (Az (A0 J J) (Az (AI J J J) (Az (Ao 1 1 J J J (by kernel_rfl) J) (Az (A4 J J J (by kernel_rfl) J) ?_)))))))))))
 refine Az (Bl J J J (IntWalk.i64_in _ (by omega))) ?_
 refine Az (AI J J J) (Az (Ao 1 1 J J J (by kernel_rfl) J) (Az (Ap 1 J J J J (by kernel_rfl) J J J) (Ad (Az (A0 J J) (Az (Aj J J J (DL tk e _ hm hi2 ⟨#[46]⟩) J J J J) (Ad (Az (Au 3 J J J (by kernel_rfl) J J) (Az (Ap 3 J J J J (by kernel_rfl) J J J) (Ae ?_)))))))))
 exact ⟨rn [(9, 100)], ⟨⟨⟨_, J, VLe.rf⟩, O⟩, ⟨⟨_, J, by first | exact BLe.rf | exact AE (by rw [hno]; first | done | rfl)⟩, ⟨_, J, by first | exact BLe.rf | exact AE (by rw [hno]; first | done | rfl)⟩, O⟩, ⟨⟨J, .inl nofun, fun _ _ => ⟨_, J⟩⟩, O⟩, J⟩⟩
end Go.Proofs.YtkemjhlbokldhaaGreat

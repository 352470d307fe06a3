/- The abstract walk: a new array, and what goes into it is gone elsewhere. -/
import Derived.Test.YtcgickpnckedcaaAbsOwn
namespace Go.Proofs.Ytcgickpnckedcaa
open Go.RowKit
set_option linter.unusedVariables false

def gones (js : List Nat) : Locs := js.map fun j => (j, none)
theorem lk_gones {js : List Nat} {l : Locs} {k : Nat} : lk (gones js ++ l) k = if k ∈ js then some none else lk l k := by
  induction js with
  | nil => simp [gones]
  | cons j js ih =>
    show lk ((j, none) :: (gones js ++ l)) k = _
    by_cases h : j = k
    · subst h; rw [lk_cons_self]; simp
    · rw [lk_cons_ne h, ih]
      by_cases h2 : k ∈ js
      · simp [h2]
      · have : ¬ k = j := fun e => h e.symm
        simp [h2, this]
theorem lkl_gones {js : List Nat} {l : Locs} {k : Nat} : lkl (gones js ++ l) k = if k ∈ js then none else lkl l k := by
  unfold lkl
  rw [lk_gones]
  by_cases h : k ∈ js <;> simp [h]

theorem ArrR.lay {I : Nat → Prop} {ρ : Nat → Nat} {hd : Nat → Value} {F : Nat → List Nat} {α : Type} {e : Enc α} {f : α → List Cell} [hc : CellsOf e f] {w : World} {k blk : Nat} {T : TypeId} {xs : List α} {d : Bool} {v : Value} {cells : List Value} {bs : List Nat}
    (h : w.ownsRow 0 T e.size v xs.length cells) (hf : FR w cells (xs.flatMap f) bs) (hI : ∀ b ∈ bs, I b) (hb : ∀ b, v.ownBlock = some b → b = blk ∧ ¬ I b) : ArrR ⟨I, setAt ρ k blk, setAt hd k v, setAt F k bs⟩ w k T e xs d := by
  refine ArrR.ofRow (cells := cells) (bs := bs) ?_ hf hI (fun _ => setAt_self) (fun b hb' => ?_)
  · show w.ownsRow 0 T e.size (setAt hd k v k) xs.length cells
    rw [setAt_self]; exact h
  · have h1 : (setAt hd k v k).ownBlock = some b := hb'
    rw [setAt_self] at h1
    obtain ⟨rfl, h2⟩ := hb b h1
    exact ⟨setAt_self.symm, h2⟩
section
variable {g : Gh} {l : Locs} {w w' : World}
/-- A new array k, in block blk; the arrays js are gone, those of them in fz lie in it unchanged. -/
theorem arr_new (m : MemR g l w) {k : Nat} (hk : lk l k = none) (hki : k ∉ l.ids) {js fz : List Nat} (hsub : ∀ j ∈ fz, j ∈ js) (hjs : ∀ j ∈ js, ∃ (α : Type) (T : TypeId) (e : Enc α) (xs : List α) (d : Bool), lkl l j = some (.arr T e xs d))
    {α : Type} {T : TypeId} {e : Enc α} {xs : List α} {d : Bool} {blk : Nat} {v : Value} {fp : List Nat}
    (hos : w'.os = w.os) (htp : w'.tape = w.tape) (hout : w'.output = w.output) (hs : w.heap.size ≤ w'.heap.size)
    (hkeep : ∀ b, b < w.heap.size → (∀ j ∈ js, j ∉ fz → g.hd j ≠ .slice none 0 0 → b ≠ g.ρ j) → w'.heap[b]? = w.heap[b]?)
    (hA : ArrR ⟨fun b => g.I b ∨ liveA g fz b, setAt g.ρ k blk, setAt g.hd k v, setAt g.F k fp⟩ w' k T e xs d)
    (hblk : v ≠ .slice none 0 0 → blk < w'.heap.size ∧ (w.heap.size ≤ blk ∨ ∃ j ∈ js, j ∉ fz ∧ g.hd j ≠ .slice none 0 0 ∧ blk = g.ρ j))
    (hfp : d = true → fp.Nodup ∧ ∀ b ∈ fp, (g.I b ∨ liveA g fz b) ∧ (∃ c t, w'.heap[b]? = some (.cells c t (0, 0))) ∧ ∃ j ∈ js, Via g l j b) :
    ∃ g', g'.ρ k = blk ∧ g'.hd k = v ∧ MemR g' ((k, some (.arr T e xs d)) :: (gones js ++ l)) w' ∧ (∀ K, Step K g l w g' ((k, some (.arr T e xs d)) :: (gones js ++ l)) w') ∧
      (∀ b, g.I b → w'.heap[b]? = w.heap[b]?) ∧ (∀ b, g.I b → g'.I b) ∧ ∀ j, j ≠ k → okK g l g' ((k, some (.arr T e xs d)) :: (gones js ++ l)) j := by
  let g' : Gh := ⟨fun b => g.I b ∨ liveA g fz b, setAt g.ρ k blk, setAt g.hd k v, setAt g.F k fp⟩
  have hkj : k ∉ js := fun h => by
    obtain ⟨_, _, _, _, _, h1⟩ := hjs k h
    have : lkl l k = none := by unfold lkl; rw [hk]
    rw [this] at h1; cases h1
  have hi : ∀ b, g.I b → w'.heap[b]? = w.heap[b]? := fun b hb => hkeep b (m.ilt b hb) fun j hj _ hl e => by
    obtain ⟨_, _, _, _, _, h1⟩ := hjs j hj
    exact m.notI h1 hl (e ▸ hb)
  have hl' : ∀ j, j ≠ k → lkl ((k, some (.arr T e xs d)) :: (gones js ++ l)) j = if j ∈ js then none else lkl l j := fun j hj => by
    rw [lkl_cons_ne (Ne.symm hj), lkl_gones]
  have hu : ∀ j, j ≠ k → lkl ((k, some (.arr T e xs d)) :: (gones js ++ l)) j = none ∨ Untouched g l w g' ((k, some (.arr T e xs d)) :: (gones js ++ l)) w' j := fun j hj => by
    by_cases h : j ∈ js
    · left; rw [hl' j hj, if_pos h]
    · right
      refine ⟨by rw [hl' j hj, if_neg h], setAt_ne hj, setAt_ne hj, setAt_ne hj, fun b hb hlv => ⟨hkeep _ (m.lt hb hlv) fun i hi' _ hil e => ?_, fun hI => ?_⟩⟩
      · obtain ⟨_, _, _, _, _, h1⟩ := hjs i hi'
        exact m.dis j i _ _ (fun e => h (e ▸ hi')) hb h1 hlv hil e
      · rcases hI with hI | ⟨i, hif, hil, e⟩
        · exact m.notI hb hlv hI
        · obtain ⟨_, _, _, _, _, h1⟩ := hjs i (hsub i hif)
          exact m.dis j i _ _ (fun e => h (e ▸ hsub i hif)) hb h1 hlv hil e
  have ok : ∀ j, j ≠ k → okK g l g' ((k, some (.arr T e xs d)) :: (gones js ++ l)) j := fun j hj => by
    rcases hu j hj with h | h
    · exact okK.gone h
    · exact h.ok
  have hlt : ∀ b, g'.I b → b < w'.heap.size := fun b hb => by
    rcases hb with hb | ⟨i, hif, hil, e⟩
    · exact Nat.lt_of_lt_of_le (m.ilt b hb) hs
    · obtain ⟨_, _, _, _, _, h1⟩ := hjs i (hsub i hif)
      rw [e]; exact Nat.lt_of_lt_of_le (m.lt h1 hil) hs
  refine ⟨g', setAt_self, setAt_self, m.set1 k hi (fun b hb => .inl hb) hs hlt hu (.inr hki) (fun cs hc => ?_) (fun β U e2 ys d2 hc => ?_) (fun j b b' hj h1 h2 h3 l1 l2 => ?_) (fun β U e2 ys hc => ?_) (fun j β γ U V e2 e3 ys zs hj h1 h2 h3 => ?_), fun K => ?_, hi, fun b hb => .inl hb, ok⟩
  · rw [lkl_cons_self] at hc; cases hc
  · rw [lkl_cons_self] at hc; cases hc; exact hA
  · rw [lkl_cons_self] at h3; cases h3
    have hv : v ≠ .slice none 0 0 := by have := l2; show v ≠ _; rw [← (setAt_self (f := g.hd) (k := k) (v := v))]; exact this
    rw [show g'.ρ k = blk from setAt_self]
    rcases (hblk hv).2 with h | ⟨i, hij, _, hil, e⟩
    · have := m.lt h2 l1; omega
    · obtain ⟨_, _, _, _, _, h4⟩ := hjs i hij
      rw [e]
      refine m.dis j i _ _ (fun e => ?_) h2 h4 l1 hil
      subst e
      rw [hl' j hj, if_pos hij] at h1; cases h1
  · rw [lkl_cons_self] at hc; cases hc
    rw [show g'.F k = fp from setAt_self]
    obtain ⟨n1, n2⟩ := hfp rfl
    exact ⟨n1, fun b hb => ⟨(n2 b hb).1, (n2 b hb).2.1⟩⟩
  · rw [lkl_cons_self] at h3; cases h3
    rw [show g'.F k = fp from setAt_self]
    intro b hb hb'
    obtain ⟨i, hij, hvia⟩ := ((hfp rfl).2 b hb').2.2
    have : j = i := Via.disj m (b := b) ⟨β, U, e2, ys, h2, .inr hb⟩ hvia
    subst this
    rw [hl' j hj, if_pos hij] at h1; cases h1
  · refine ⟨hos, htp, hout, hs, fun b hb hn => hkeep b hb fun j hj _ hl e => ?_, fun b hb => .inl hb, fun b hb => ?_, own_set1 k hu (fun b hb hl => ?_) (fun β U e2 ys hc b hb => ?_), fun j hj hn => ?_⟩
    · obtain ⟨_, _, _, _, _, h1⟩ := hjs j hj
      exact hn j _ h1 hl e
    · rcases hb with hb | ⟨i, hif, hil, e⟩
      · exact .inl hb
      · obtain ⟨_, _, _, _, _, h1⟩ := hjs i (hsub i hif)
        exact .inr (.inr (e ▸ OwnB.of_live h1 hil))
    · rw [lkl_cons_self] at hb; cases hb
      have hv : v ≠ .slice none 0 0 := by have := hl; rw [← (setAt_self (f := g.hd) (k := k) (v := v))]; exact this
      rw [show g'.ρ k = blk from setAt_self]
      rcases (hblk hv).2 with h | ⟨i, hij, _, hil, e⟩
      · exact .inr h
      · obtain ⟨_, _, _, _, _, h4⟩ := hjs i hij
        exact .inl (e ▸ OwnB.of_live h4 hil)
    · rw [lkl_cons_self] at hc; cases hc
      rw [show g'.F k = fp from setAt_self] at hb
      obtain ⟨i, hij, hvia⟩ := ((hfp rfl).2 b hb).2.2
      exact .inl hvia.own
    · have hjk := key_ne hn hk
      refine ⟨?_, ok j hjk, fun cs hc => ?_⟩
      · rw [lk_cons_ne (Ne.symm hjk), lk_gones]
        split
        · simp
        · exact hn
      · refine ⟨cs, ?_⟩
        rw [hl' j hjk, if_neg]
        · exact hc
        · intro hjj
          obtain ⟨_, _, _, _, _, h1⟩ := hjs j hjj
          rw [hc] at h1; cases h1
end

/-! ### Growing -/
/-- append to a row of one's own: the new row lies in the old block, or in a new one. -/
theorem run_app {P : Program} (w : World) (t ty e : TypeId) (i : TypeInfo) (z : Value) (size bytes : Nat) (ht : P.underlying t = some (.slice e)) (hi : P.info? e = some i) (hz : i.zero = some z)
    (hsize : i.size = size) (hby : i.bytes = bytes) (hzs : z.cells.size = size) (hsz : 0 < size)
    (v : Value) (n : Nat) (xs : List Value) (hown : w.ownsRow 0 e size v n xs)
    (a : Addr) (m c : Nat) (news : List Value) (hl : news.length = m * size) (hnews : ∀ j u, news[j]? = some u → w.cell? (a.add j) = some u) (h1 : ∀ u ∈ news, u.oneCell' = true)
    (h63 : n + m ≤ maxLen) (hbytes : (n + m) * bytes ≤ 140737488355328) :
    ∃ v' w', (Builtin.append_ #[t, t] ty #[v, .slice (some a) m c]).run P w = .ok v' w' ∧ w'.ownsRow 0 e size v' (n + m) (xs ++ news) ∧ w.grownBy w' v.ownBlock ∧
      ∀ b, v'.ownBlock = some b → v.ownBlock = some b ∨ w.heap.size ≤ b := by
  rcases hown.2 with ⟨rfl, rfl⟩ | ⟨g, cap, cur, rfl, hbg, hg, hnc, hcm, hcs, htake⟩
  · have h0 : w.ownsRow w.heap.size e size (.slice none 0 0) 0 xs := ⟨hown.1, .inl ⟨rfl, rfl⟩⟩
    obtain ⟨v', w', r1, r2, r3, _⟩ := run_append_own (P := P) w w.heap.size t ty e i z size bytes ht hi hz hsize hby hzs hsz _ _ _ h0 a m c news hl hnews h1 h63 hbytes (Nat.le_refl _)
    refine ⟨v', w', r1, ⟨r2.1, ?_⟩, r3, fun b hb => .inr (r2.lt b hb).1⟩
    rcases r2.2 with h | ⟨b, cap, cur, h2, _, h3⟩
    · exact .inl h
    · exact .inr ⟨b, cap, cur, h2, Nat.zero_le _, h3⟩
  · subst hsize
    subst hby
    by_cases hroom : n + m ≤ cap
    · have hfit : n * i.size + news.length ≤ cur.size := by rw [hl, hcs, ← Nat.add_mul]; exact Nat.mul_le_mul_right _ hroom
      obtain ⟨v', w', r1, r2, r3, _⟩ := run_append_own (P := P) w 0 t ty e i z i.size i.bytes ht hi hz rfl rfl hzs hsz _ _ _ hown a m c news hl hnews h1 h63 hbytes (Nat.zero_le _)
      have hr := run_append_room (P := P) w t ty e i ht hi g n cap cur hg a m c news hl hnews h1 hroom hfit
      rw [hr] at r1
      cases r1
      exact ⟨_, _, hr, r2, r3, fun b hb => .inl hb⟩
    · obtain ⟨v', w', r1, r2, r3, _⟩ := run_append_own (P := P) w 0 t ty e i z i.size i.bytes ht hi hz rfl rfl hzs hsz _ _ _ hown a m c news hl hnews h1 h63 hbytes (Nat.zero_le _)
      have holds : ∀ j u, xs[j]? = some u → w.cell? ((⟨g, 0, none⟩ : Addr).add j) = some u := hown.cells (g := g) rfl
      have hsmall : n + m ≤ 9223372036854775807 := by simp only [maxLen] at h63; omega
      have hr := run_append_grow (P := P) w t ty e i z ht hi hz ⟨g, 0, none⟩ n cap xs hown.1 holds a m c news hl hnews (by omega) (by omega) (growslice_fits (by omega) hbytes)
      rw [hr] at r1
      cases r1
      exact ⟨_, _, hr, r2, r3, fun b hb => .inr (by simp [Value.ownBlock] at hb; omega)⟩
/-- append of nothing. -/
theorem run_app_nil {P : Program} (w : World) (t ty e : TypeId) (i : TypeInfo) (ht : P.underlying t = some (.slice e)) (hi : P.info? e = some i) (base : Option Addr) (n cap : Nat) (hle : n ≤ cap) :
    (Builtin.append_ #[t, t] ty #[.slice base n cap, .slice none 0 0]).run P w = .ok (.slice base n cap) w := by
  cases base <;> simp [Builtin.append_, run_underlying ht, sizeOf, typeInfo, hi, Builtin.lenOf, Builtin.firstCells, loadCells, storeCells, hle]
end Go.Proofs.Ytcgickpnckedcaa

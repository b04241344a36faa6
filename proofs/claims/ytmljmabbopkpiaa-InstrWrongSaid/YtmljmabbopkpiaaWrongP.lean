/- what instr.Do answers to what is not right; slices of instructions of which one is set; memory with blocks and lists apart. -/
import Derived.Test.YtmljmabbopkpiaaMade14
import Derived.Test.YtmljmabbopkpiaaAwake
import Derived.Test.YtmljmabbopkpiaaSame
import Derived.Deep.MidRow
import Derived.Deep.DeepCutAuto
namespace Go.Proofs.Ytmljmabbopkpiaa
open Go.RowKit
set_option linter.unusedVariables false
set_option linter.unusedSimpArgs false

/-! ### programs of which one instruction is set -/
theorem checkI_bad {p : List Ins} {j : Nat} {x : Ins} (h0 : 0 < p.length) (h1 : p.length ≤ 256) (hx : p[j]? = some x) (hb : badAt p.length x ≠ 0) : (checkI p).2 ≠ 0 := by
  unfold checkI
  rw [if_neg (by omega), if_neg (by omega)]
  unfold checkK
  cases hf : p.findIdx? (fun i => badAt p.length i != 0) with
  | none =>
    rw [List.findIdx?_eq_none_iff] at hf
    have := hf x (List.mem_of_getElem? hx)
    simp at this
    exact absurd this hb
  | some k =>
    obtain ⟨hk, hb2, _⟩ := List.findIdx?_eq_some_iff_getElem.1 hf
    dsimp only
    have hg : p.getD k ⟨0, 0, 0, 0, 0⟩ = p[k] := by simp [List.getD, hk]
    rw [hg]
    simpa using hb2
theorem made14_set_right (xs : List Ins) (k : Nat) : (checkI ((made14 xs).set k ⟨2, 0, 0, 0, 0⟩)).2 = 0 := by
  have hl := made14_le xs
  unfold checkI
  rw [List.length_set, if_neg (by omega), if_neg (by omega)]
  have hK := checkK_none (p := (made14 xs).set k ⟨2, 0, 0, 0, 0⟩) (fun j hj y hy => by
    rw [List.length_set]
    rcases List.mem_or_eq_of_mem_set (List.mem_of_getElem? hy) with h | h
    · exact made14_bad xs y h
    · rw [h]
      unfold badAt
      rw [if_neg (by decide), if_neg (fun h => absurd h.1 (by decide))])
  rw [hK]
  have : ((made14 xs).set k ⟨2, 0, 0, 0, 0⟩).getD (((made14 xs).set k ⟨2, 0, 0, 0, 0⟩).length - 1) ⟨0, 0, 0, 0, 0⟩ = haltI ∨ ((made14 xs).set k ⟨2, 0, 0, 0, 0⟩).getD (((made14 xs).set k ⟨2, 0, 0, 0, 0⟩).length - 1) ⟨0, 0, 0, 0, 0⟩ = ⟨2, 0, 0, 0, 0⟩ := by
    rw [List.length_set, List.getD_eq_getElem?_getD]
    by_cases hk : k = (made14 xs).length - 1
    · right
      rw [← hk, List.getElem?_set_self (by omega)]; rfl
    · left
      rw [List.getElem?_set_ne hk, made14_len]
      simp [made14]
  rcases this with h | h <;> (rw [h, if_neg (by decide)])
theorem made14_set_bad (xs : List Ins) (k : Nat) (hk : k < (made14 xs).length) : (checkI ((made14 xs).set k ⟨2, 1, 0, 0, 0⟩)).2 ≠ 0 := by
  have hl := made14_le xs
  refine checkI_bad (j := k) (x := ⟨2, 1, 0, 0, 0⟩) (by rw [List.length_set]; omega) (by rw [List.length_set]; omega) (List.getElem?_set_self hk) ?_
  unfold badAt
  rw [if_pos (by decide)]
  decide
theorem set_ok {p : List Ins} (hp : ∀ i ∈ p, i.ok) (k : Nat) (y : Ins) (hy : y.ok) : ∀ i ∈ p.set k y, i.ok := by
  intro i hi
  rcases List.mem_or_eq_of_mem_set hi with h | h
  · exact hp i h
  · rw [h]; exact hy
theorem failI_ok (a : Int) (h : a = 0 ∨ a = 1) : (⟨2, a, 0, 0, 0⟩ : Ins).ok := by
  rcases h with rfl | rfl <;> exact ok_mk (by decide)
/-! ### what Do answers -/
theorem openE_zero {p : List Ins} {v : Envi} {s : St} (hp : (checkI p).2 = 0) (hv : v.rightB = true) (hs : rightB s.at_ s.draws p.length s.cells.length = true) : openE p v s = 0 := by
  unfold openE
  rw [if_neg (by simp [hp]), if_neg (by simp [hv]), if_neg (by simp [hs])]
theorem top_ended {p : List Ins} {v : Envi} {s : St} (ho : openE p v s = 0) (he : s.ended = true) : topE p v s = 183 := by
  unfold topE stepE
  rw [if_neg (by simp [ho]), if_pos he]
theorem top_fail {p : List Ins} {v : Envi} {s : St} (ho : openE p v s = 0) (he : s.ended = false) (a b c n : Int) (hi : insAt p s.at_ = ⟨2, a, b, c, n⟩) : topE p v s = 184 := by
  unfold topE stepE
  rw [if_neg (by simp [ho]), if_neg (by simp [he]), hi]
  rfl
theorem top_prog {p : List Ins} {v : Envi} {s : St} (hp : (checkI p).2 ≠ 0) : topE p v s = 180 := by
  have ho : openE p v s = 180 := by unfold openE; rw [if_pos hp]
  unfold topE
  rw [ho, if_pos (by decide)]
theorem top_env {p : List Ins} {v : Envi} {s : St} (hp : (checkI p).2 = 0) (hv : v.rightB = false) : topE p v s = 181 := by
  have ho : openE p v s = 181 := by unfold openE; rw [if_neg (by simp [hp]), if_pos hv]
  unfold topE
  rw [ho, if_pos (by decide)]
theorem top_state {p : List Ins} {v : Envi} {s : St} (hp : (checkI p).2 = 0) (hv : v.rightB = true) (hs : rightB s.at_ s.draws p.length s.cells.length = false) : topE p v s = 182 := by
  have ho : openE p v s = 182 := by unfold openE; rw [if_neg (by simp [hp]), if_neg (by simp [hv]), if_pos hs]
  unfold topE
  rw [ho, if_pos (by decide)]
/-- Do that fails -/
theorem do_z (p : List Ins) (hp : ∀ i ∈ p, i.ok) (v : Envi) (s : St) (E : Int) (hE : topE p v s = E) (h0 : E ≠ 0) (A B D : Option Addr) (n c m k d f : Nat) (hn : n < 2^62) (hk : k ≤ 1000000) (w : World) (hA : Reads w w.heap.size 5 A n (insV p)) (hc : Reads w w.heap.size 1 B m (int64s s.cells)) (hs : Reads w w.heap.size 3 D k (sndsV s.sends)) :
    Calls Try.prog 31 #[.slice A n c, v.v, s.v (.slice B m d) (.slice D k f)] w fun e w' => ∃ A1 k1 A2 k2, e = .returned (.tuple #[.agg #[.int .i64 0, .bool false, .int .i64 0, .int .i64 0, .int .i64 0, .int .i64 0, .int .i64 0, .int .i64 0, .int .i64 0, .int .i64 0, .slice A1 0 k1, .int .i64 0, .slice A2 0 k2], .int .i64 E]) ∧ Below w.heap.size w w' := by
  have hT : topS p v s = zeroSt := by unfold topS; rw [if_pos (by rw [hE]; exact h0)]
  refine (Do_c A n c hn p hp v s B D m k d f hk w hA hc hs).mono ?_
  rintro e w' ⟨C, S, rfl, h1, h2, h3⟩
  rw [hT] at h1 h2
  obtain ⟨A1, k1, rfl⟩ := own_slice h1
  obtain ⟨A2, k2, rfl⟩ := own_slice h2
  rw [hT, hE]
  exact ⟨A1, k1, A2, k2, rfl, h3⟩
/-! ### a slice of instructions of which one is set -/
theorem insV_at {p : List Ins} {q r : Nat} {u : Value} (hr : r < 5) (h : (insV p)[q * 5 + r]? = some u) : ∃ y, p[q]? = some y ∧ y.cells[r]? = some u := by
  have hj := (List.getElem?_eq_some_iff.1 h).1
  rw [insV_len] at hj
  have hk : q < p.length := by omega
  have hy := List.getElem?_eq_getElem hk
  exact ⟨p[q], hy, by rw [← h]; exact (flat_at Ins.cells 5 (fun _ => rfl) p q r _ hy hr).symm⟩
theorem insV_of {p : List Ins} {q r : Nat} {y : Ins} (h : p[q]? = some y) (hr : r < 5) : (insV p)[q * 5 + r]? = y.cells[r]? := flat_at Ins.cells 5 (fun _ => rfl) p q r y h hr
theorem Reads.setI {w : World} {B g n : Nat} {p : List Ins} (h : Reads w B 5 (some ⟨g, 0, none⟩) n (insV p)) (k : Nat) (hk : k < p.length) (y : Ins) : Reads (w.setCells g (k * 5) y.cells) B 5 (some ⟨g, 0, none⟩) n (insV (p.set k y)) := by
  have hl := h.ins_len
  refine ⟨by rw [insV_len, List.length_set, ← insV_len, h.1], fun hn => ?_⟩
  obtain ⟨ad, e, hb, hc⟩ := h.2 hn
  cases e
  refine ⟨_, rfl, hb, fun j u hu => ?_⟩
  obtain ⟨q, r, hr5, rfl⟩ : ∃ q r, r < 5 ∧ j = q * 5 + r := ⟨j / 5, j % 5, by omega, by omega⟩
  obtain ⟨z, h1, h2⟩ := insV_at hr5 hu
  rw [Addr.add_lit, Nat.zero_add]
  have hc' : ∀ j u, (insV p)[j]? = some u → w.cell? ⟨g, j, none⟩ = some u := fun j u hu => by
    have := hc j u hu
    rwa [Addr.add_lit, Nat.zero_add] at this
  by_cases hq : k = q
  · subst hq
    rw [List.getElem?_set_self hk] at h1
    cases h1
    have := World.cell?_setCells_in g y.cells (k * 5) w (fun r hr => by
      have hr5 : r < 5 := hr
      obtain ⟨z0, hz0⟩ : ∃ z0, p[k]? = some z0 := ⟨_, List.getElem?_eq_getElem hk⟩
      have hr' : r < z0.cells.length := hr5
      rw [hc' (k * 5 + r) _ ((insV_of hz0 hr5).trans (List.getElem?_eq_getElem hr'))]
      rfl) r hr5
    rw [this, ← h2]
    exact (List.getElem?_eq_getElem hr5).symm
  · rw [List.getElem?_set_ne hq] at h1
    rw [World.cell?_setCells_out g y.cells (k * 5) w ⟨g, q * 5 + r, none⟩ (fun _ _ => by show q * 5 + r < k * 5 ∨ k * 5 + 5 ≤ q * 5 + r; omega)]
    exact hc' _ u ((insV_of h1 hr5).trans h2)
theorem Reads.setA {w : World} {B g n : Nat} {p : List Ins} (h : Reads w B 5 (some ⟨g, 0, none⟩) n (insV p)) (k : Nat) (x : Ins) (hx : p[k]? = some x) (a : Int) : Reads (w.setCell ⟨g, k * 5 + 1, none⟩ (.int .u8 a)) B 5 (some ⟨g, 0, none⟩) n (insV (p.set k { x with a := a })) := by
  have hk : k < p.length := (List.getElem?_eq_some_iff.1 hx).1
  refine ⟨by rw [insV_len, List.length_set, ← insV_len, h.1], fun hn => ?_⟩
  obtain ⟨ad, e, hb, hc⟩ := h.2 hn
  cases e
  have hc' : ∀ j u, (insV p)[j]? = some u → w.cell? ⟨g, j, none⟩ = some u := fun j u hu => by
    have := hc j u hu
    rwa [Addr.add_lit, Nat.zero_add] at this
  refine ⟨_, rfl, hb, fun j u hu => ?_⟩
  obtain ⟨q, r, hr5, rfl⟩ : ∃ q r, r < 5 ∧ j = q * 5 + r := ⟨j / 5, j % 5, by omega, by omega⟩
  obtain ⟨z, h1, h2⟩ := insV_at hr5 hu
  rw [Addr.add_lit, Nat.zero_add]
  by_cases hq : k = q
  · subst hq
    rw [List.getElem?_set_self hk] at h1
    cases h1
    by_cases hr : r = 1
    · subst hr
      cases h2
      exact World.cell?_setCell_same w _ _ (hc' (k * 5 + 1) (.int .u8 x.a) ((insV_of hx (by omega)).trans rfl))
    · rw [World.cell?_setCell_other _ _ _ _ (fun e => by injection e; omega)]
      refine hc' _ u ((insV_of hx hr5).trans ?_)
      rw [← h2]
      match r, hr5, hr with
      | 0, _, _ => rfl
      | 2, _, _ => rfl
      | 3, _, _ => rfl
      | 4, _, _ => rfl
  · rw [List.getElem?_set_ne hq] at h1
    rw [World.cell?_setCell_other _ _ _ _ (fun e => by injection e; omega)]
    exact hc' _ u ((insV_of h1 hr5).trans h2)
/-! ### a walk's memory: blocks, lists apart from them, and one slice of instructions that is set -/
theorem Reads.keepC {w w' : World} {B B' size n : Nat} {A : Option Addr} {xs : List Value} (h : Reads w B size A n xs) (hB : B ≤ B') (hk : ∀ ad, A = some ad → ∀ p : Addr, p.block = ad.block → w'.cell? p = w.cell? p) : Reads w' B' size A n xs :=
  ⟨h.1, fun hn => by
    obtain ⟨ad, e, hb, hc⟩ := h.2 hn
    exact ⟨ad, e, by omega, fun j u hu => (hk ad e _ (block_of_add ad j)).trans (hc j u hu)⟩⟩
structure WQ (w : World) (H gq : Nat) (L : List Bk) (R : List Rd) (n : Nat) (ps : List Ins) (X : World) : Prop where
  aw : AW w L R X
  rg : ∀ e ∈ R, ∀ ad, e.A = some ad → w.heap.size + 2 ≤ ad.block ∧ ad.block < H
  q : Reads X X.heap.size 5 (some ⟨gq, 0, none⟩) n (insV ps)
  qb : ∃ cur, Blk X gq 28 cur
  hq : H ≤ gq
  ne : ∀ e ∈ L, e.g ≠ gq
  hH : w.heap.size + 2 ≤ H
section
variable {w X X' : World} {H gq n : Nat} {L : List Bk} {R : List Rd} {ps : List Ins}
theorem WQ.lt (h : WQ w H gq L R n ps X) : gq < X.heap.size := by obtain ⟨c, hb⟩ := h.qb; exact hb.lt
theorem WQ.frozen (h : WQ w H gq L R n ps X) (i : Nat) : X.frozen? ⟨gq, i, none⟩ = false := by obtain ⟨c, hb⟩ := h.qb; exact hb.frozen i
theorem WQ.call (h : WQ w H gq L R n ps X) (hb : Below X.heap.size X X') : WQ w H gq L R n ps X' :=
  ⟨h.aw.call hb, h.rg, (h.q.below hb).more hb.size, by obtain ⟨c, hB⟩ := h.qb; exact ⟨c, hB.below hb hB.lt⟩, h.hq, h.ne, h.hH⟩
theorem WQ.put (h : WQ w H gq L R n ps X) (t : TypeId) (cs : Array Value) {g : Nat} (hg : g = X.heap.size) : WQ w H gq (⟨g, t, cs⟩ :: L) R n ps (X.alloc (.cells cs t)) :=
  ⟨h.aw.put' t cs hg, h.rg, (h.q.alloc (Nat.le_refl _) _).more (by simp), by obtain ⟨c, hB⟩ := h.qb; exact ⟨c, hB.alloc _⟩, h.hq, fun e he => by
    rcases List.mem_cons.1 he with rfl | he
    · have := h.lt; show g ≠ gq; omega
    · exact h.ne e he, h.hH⟩
theorem WQ.less (h : WQ w H gq L R n ps X) {L' : List Bk} {R' : List Rd} (hl : L' ⊆ L) (hr : R' ⊆ R) : WQ w H gq L' R' n ps X :=
  ⟨h.aw.less hl hr, fun e he => h.rg e (hr he), h.q, h.qb, h.hq, fun e he => h.ne e (hl he), h.hH⟩
theorem WQ.upd {G : Nat} {t : TypeId} {cs : Array Value} (h : WQ w H gq (⟨G, t, cs⟩ :: L) R n ps X) (h1 : w.heap.size ≤ G) (h2 : G < w.heap.size + 2 ∨ H ≤ G) (hn : ∀ e ∈ L, e.g ≠ G) (i : Nat) (u : Value) : WQ w H gq (⟨G, t, cs.setIfInBounds i u⟩ :: L) R n ps (X.setCell ⟨G, i, none⟩ u) := by
  have hG : G ≠ gq := h.ne _ (.head _)
  refine ⟨⟨h.aw.b.setCell (p := ⟨G, i, none⟩) h1 u, fun e he => ?_, fun e he => ?_⟩, h.rg, ?_, ?_, h.hq, fun e he => ?_, h.hH⟩
  · rcases List.mem_cons.1 he with rfl | he
    · exact (h.aw.l _ (.head _)).set_ i u
    · exact (h.aw.l _ (.tail _ he)).far (p := ⟨G, i, none⟩) (hn e he) u
  · refine (h.aw.r e he).keepC (by simp) (fun ad hA p hp => World.cell?_setCell_other _ _ _ _ (fun e2 => ?_))
    have := h.rg e he ad hA
    rw [← e2] at hp
    dsimp only at hp
    omega
  · refine h.q.keepC (by simp) (fun ad hA p hp => World.cell?_setCell_other _ _ _ _ (fun e2 => ?_))
    cases hA
    rw [← e2] at hp
    exact hG hp
  · obtain ⟨c, hB⟩ := h.qb
    exact ⟨c, hB.far (p := ⟨G, i, none⟩) (fun e => hG e.symm) u⟩
  · rcases List.mem_cons.1 he with rfl | he
    · exact hG
    · exact h.ne e (.tail _ he)
theorem WQ.own (h : WQ w H gq L R n ps X) (hX' : X'.heap.size = X.heap.size) (hb : Below w.heap.size w X') (hk : ∀ b, b ≠ gq → X'.heap[b]? = X.heap[b]?) {ps' : List Ins} (hq : Reads X' X'.heap.size 5 (some ⟨gq, 0, none⟩) n (insV ps')) (hB : ∃ cur, Blk X' gq 28 cur) : WQ w H gq L R n ps' X' :=
  ⟨⟨hb, fun e he => (hk e.g (h.ne e he)).trans (h.aw.l e he), fun e he => (h.aw.r e he).keepC (by omega) (fun ad hA p hp => World.cell?_of_block (hk p.block (by have := h.rg e he ad hA; have := h.hq; omega)))⟩, h.rg, hq, hB, h.hq, h.ne, h.hH⟩
theorem WQ.setI (h : WQ w H gq L R n ps X) (k : Nat) (hk : k < ps.length) (y : Ins) : WQ w H gq L R n (ps.set k y) (X.setCells gq (k * 5) y.cells) := by
  have hg : w.heap.size ≤ gq := by have := h.hq; have := h.hH; omega
  obtain ⟨c, hB⟩ := h.qb
  refine h.own (by simp [World.setCells, Ins.cells]) ?_ (fun b hb => ?_) ?_ ⟨_, ((((hB.set_ (k * 5) _).set_ (k * 5 + 1) _).set_ (k * 5 + 1 + 1) _).set_ (k * 5 + 1 + 1 + 1) _).set_ (k * 5 + 1 + 1 + 1 + 1) _⟩
  · exact ((((h.aw.b.setCell (p := ⟨gq, _, none⟩) hg _).setCell (p := ⟨gq, _, none⟩) hg _).setCell (p := ⟨gq, _, none⟩) hg _).setCell (p := ⟨gq, _, none⟩) hg _).setCell (p := ⟨gq, _, none⟩) hg _
  · have f : ∀ (Y : World) (o : Nat) (v : Value), (Y.setCell ⟨gq, o, none⟩ v).heap[b]? = Y.heap[b]? := fun Y o v => Below.heap_setCell Y ⟨gq, o, none⟩ v b hb
    show (((((X.setCell _ _).setCell _ _).setCell _ _).setCell _ _).setCell _ _).heap[b]? = _
    rw [f, f, f, f, f]
  · exact (h.q.setI k hk y).more (by simp [World.setCells, Ins.cells])
theorem WQ.setA (h : WQ w H gq L R n ps X) (k : Nat) (x : Ins) (hx : ps[k]? = some x) (a : Int) : WQ w H gq L R n (ps.set k { x with a := a }) (X.setCell ⟨gq, k * 5 + 1, none⟩ (.int .u8 a)) := by
  have hg : w.heap.size ≤ gq := by have := h.hq; have := h.hH; omega
  obtain ⟨c, hB⟩ := h.qb
  exact h.own (by simp) (h.aw.b.setCell (p := ⟨gq, _, none⟩) hg _) (fun b hb => Below.heap_setCell X ⟨gq, _, none⟩ _ b hb) ((h.q.setA k x hx a).more (by simp)) ⟨_, hB.set_ _ _⟩
theorem WQ.there (h : WQ w H gq L R n ps X) (k : Nat) (hk : k < ps.length) : X.there gq (k * 5) 5 := fun j hj => by
  refine ⟨?_, h.frozen _⟩
  obtain ⟨ad, e, _, hc⟩ := h.q.2 (by have := h.q.ins_len; omega)
  cases e
  have hy : ps[k]? = some ps[k] := List.getElem?_eq_getElem hk
  have hj' : j < ps[k].cells.length := hj
  have := hc (k * 5 + j) _ ((insV_of hy hj).trans (List.getElem?_eq_getElem hj'))
  rw [Addr.add_lit, Nat.zero_add] at this
  rw [this]
  rfl
end
end Go.Proofs.Ytmljmabbopkpiaa

import Derived.Test.YtmljmabbopkpiaaG5
import Derived.Test.YtmljmabbopkpiaaG6
import Derived.Test.YtmljmabbopkpiaaG7
import Derived.Test.YtmljmabbopkpiaaG8
import Derived.Test.YtmljmabbopkpiaaG11
import Derived.Deep.MidRow
import Derived.Deep.DeepCutAuto
section
/- what instr.Do answers to what is not right; slices of instructions of which one is set; memory with blocks and lists apart. -/
namespace Go.Proofs.Ytmljmabbopkpiaa
open Go.RowKit
set_option linter.unusedVariables false
set_option linter.unusedSimpArgs false

/-! ### programs of which one instruction is set -/
theorem checkI_bad {p : List Ins} {j : Nat} {x : Ins} (h0 : 0 < p.length) (h1 : p.length ≤ 256) (hx : p[j]? = some x) (hb : badAt p.length x ≠ 0) : (checkI p).2 ≠ 0 := by
  unfold checkI
  rw [if_neg (by omega), if_neg (by omega)]
  unfold checkK
  cases hf : p.findIdx? (fun i => badAt p.length i != 0) with
  | none =>
    rw [List.findIdx?_eq_none_iff] at hf
    have := hf x (List.mem_of_getElem? hx)
    simp at this
    exact absurd this hb
  | some k =>
    obtain ⟨hk, hb2, _⟩ := List.findIdx?_eq_some_iff_getElem.1 hf
    dsimp only
    have hg : p.getD k ⟨0, 0, 0, 0, 0⟩ = p[k] := by simp [List.getD, hk]
    rw [hg]
    simpa using hb2
theorem made14_set_right (xs : List Ins) (k : Nat) : (checkI ((made14 xs).set k ⟨2, 0, 0, 0, 0⟩)).2 = 0 := by
  have hl := made14_le xs
  unfold checkI
  rw [List.length_set, if_neg (by omega), if_neg (by omega)]
  have hK := checkK_none (p := (made14 xs).set k ⟨2, 0, 0, 0, 0⟩) (fun j hj y hy => by
    rw [List.length_set]
    rcases List.mem_or_eq_of_mem_set (List.mem_of_getElem? hy) with h | h
    · exact made14_bad xs y h
    · rw [h]
      unfold badAt
      rw [if_neg (by decide), if_neg (fun h => absurd h.1 (by decide))])
  rw [hK]
  have : ((made14 xs).set k ⟨2, 0, 0, 0, 0⟩).getD (((made14 xs).set k ⟨2, 0, 0, 0, 0⟩).length - 1) ⟨0, 0, 0, 0, 0⟩ = haltI ∨ ((made14 xs).set k ⟨2, 0, 0, 0, 0⟩).getD (((made14 xs).set k ⟨2, 0, 0, 0, 0⟩).length - 1) ⟨0, 0, 0, 0, 0⟩ = ⟨2, 0, 0, 0, 0⟩ := by
    rw [List.length_set, List.getD_eq_getElem?_getD]
    by_cases hk : k = (made14 xs).length - 1
    · right
      rw [← hk, List.getElem?_set_self (by omega)]; rfl
    · left
      rw [List.getElem?_set_ne hk, made14_len]
      simp [made14]
  rcases this with h | h <;> (rw [h, if_neg (by decide)])
theorem made14_set_bad (xs : List Ins) (k : Nat) (hk : k < (made14 xs).length) : (checkI ((made14 xs).set k ⟨2, 1, 0, 0, 0⟩)).2 ≠ 0 := by
  have hl := made14_le xs
  refine checkI_bad (j := k) (x := ⟨2, 1, 0, 0, 0⟩) (by rw [List.length_set]; omega) (by rw [List.length_set]; omega) (List.getElem?_set_self hk) ?_
  unfold badAt
  rw [if_pos (by decide)]
  decide
theorem set_ok {p : List Ins} (hp : ∀ i ∈ p, i.ok) (k : Nat) (y : Ins) (hy : y.ok) : ∀ i ∈ p.set k y, i.ok := by
  intro i hi
  rcases List.mem_or_eq_of_mem_set hi with h | h
  · exact hp i h
  · rw [h]; exact hy
theorem failI_ok (a : Int) (h : a = 0 ∨ a = 1) : (⟨2, a, 0, 0, 0⟩ : Ins).ok := by
  rcases h with rfl | rfl <;> exact ok_mk (by decide)
/-! ### what Do answers -/
theorem openE_zero {p : List Ins} {v : Envi} {s : St} (hp : (checkI p).2 = 0) (hv : v.rightB = true) (hs : rightB s.at_ s.draws p.length s.cells.length = true) : openE p v s = 0 := by
  unfold openE
  rw [if_neg (by simp [hp]), if_neg (by simp [hv]), if_neg (by simp [hs])]
theorem top_ended {p : List Ins} {v : Envi} {s : St} (ho : openE p v s = 0) (he : s.ended = true) : topE p v s = 183 := by
  unfold topE stepE
  rw [if_neg (by simp [ho]), if_pos he]
theorem top_fail {p : List Ins} {v : Envi} {s : St} (ho : openE p v s = 0) (he : s.ended = false) (a b c n : Int) (hi : insAt p s.at_ = ⟨2, a, b, c, n⟩) : topE p v s = 184 := by
  unfold topE stepE
  rw [if_neg (by simp [ho]), if_neg (by simp [he]), hi]
  rfl
theorem top_prog {p : List Ins} {v : Envi} {s : St} (hp : (checkI p).2 ≠ 0) : topE p v s = 180 := by
  have ho : openE p v s = 180 := by unfold openE; rw [if_pos hp]
  unfold topE
  rw [ho, if_pos (by decide)]
theorem top_env {p : List Ins} {v : Envi} {s : St} (hp : (checkI p).2 = 0) (hv : v.rightB = false) : topE p v s = 181 := by
  have ho : openE p v s = 181 := by unfold openE; rw [if_neg (by simp [hp]), if_pos hv]
  unfold topE
  rw [ho, if_pos (by decide)]
theorem top_state {p : List Ins} {v : Envi} {s : St} (hp : (checkI p).2 = 0) (hv : v.rightB = true) (hs : rightB s.at_ s.draws p.length s.cells.length = false) : topE p v s = 182 := by
  have ho : openE p v s = 182 := by unfold openE; rw [if_neg (by simp [hp]), if_neg (by simp [hv]), if_pos hs]
  unfold topE
  rw [ho, if_pos (by decide)]
/-- Do that fails -/
theorem do_z (p : List Ins) (hp : ∀ i ∈ p, i.ok) (v : Envi) (s : St) (E : Int) (hE : topE p v s = E) (h0 : E ≠ 0) (A B D : Option Addr) (n c m k d f : Nat) (hn : n < 2^62) (hk : k ≤ 1000000) (w : World) (hA : Reads w w.heap.size 5 A n (insV p)) (hc : Reads w w.heap.size 1 B m (int64s s.cells)) (hs : Reads w w.heap.size 3 D k (sndsV s.sends)) :
    Calls Try.prog 31 #[.slice A n c, v.v, s.v (.slice B m d) (.slice D k f)] w fun e w' => ∃ A1 k1 A2 k2, e = .returned (.tuple #[.agg #[.int .i64 0, .bool false, .int .i64 0, .int .i64 0, .int .i64 0, .int .i64 0, .int .i64 0, .int .i64 0, .int .i64 0, .int .i64 0, .slice A1 0 k1, .int .i64 0, .slice A2 0 k2], .int .i64 E]) ∧ Below w.heap.size w w' := by
  have hT : topS p v s = zeroSt := by unfold topS; rw [if_pos (by rw [hE]; exact h0)]
  refine (Do_c A n c hn p hp v s B D m k d f hk w hA hc hs).mono ?_
  rintro e w' ⟨C, S, rfl, h1, h2, h3⟩
  rw [hT] at h1 h2
  obtain ⟨A1, k1, rfl⟩ := own_slice h1
  obtain ⟨A2, k2, rfl⟩ := own_slice h2
  rw [hT, hE]
  exact ⟨A1, k1, A2, k2, rfl, h3⟩
/-! ### a slice of instructions of which one is set -/
theorem insV_at {p : List Ins} {q r : Nat} {u : Value} (hr : r < 5) (h : (insV p)[q * 5 + r]? = some u) : ∃ y, p[q]? = some y ∧ y.cells[r]? = some u := by
  have hj := (List.getElem?_eq_some_iff.1 h).1
  rw [insV_len] at hj
  have hk : q < p.length := by omega
  have hy := List.getElem?_eq_getElem hk
  exact ⟨p[q], hy, by rw [← h]; exact (flat_at Ins.cells 5 (fun _ => rfl) p q r _ hy hr).symm⟩
theorem insV_of {p : List Ins} {q r : Nat} {y : Ins} (h : p[q]? = some y) (hr : r < 5) : (insV p)[q * 5 + r]? = y.cells[r]? := flat_at Ins.cells 5 (fun _ => rfl) p q r y h hr
theorem Reads.setI {w : World} {B g n : Nat} {p : List Ins} (h : Reads w B 5 (some ⟨g, 0, none⟩) n (insV p)) (k : Nat) (hk : k < p.length) (y : Ins) : Reads (w.setCells g (k * 5) y.cells) B 5 (some ⟨g, 0, none⟩) n (insV (p.set k y)) := by
  have hl := h.ins_len
  refine ⟨by rw [insV_len, List.length_set, ← insV_len, h.1], fun hn => ?_⟩
  obtain ⟨ad, e, hb, hc⟩ := h.2 hn
  cases e
  refine ⟨_, rfl, hb, fun j u hu => ?_⟩
  obtain ⟨q, r, hr5, rfl⟩ : ∃ q r, r < 5 ∧ j = q * 5 + r := ⟨j / 5, j % 5, by omega, by omega⟩
  obtain ⟨z, h1, h2⟩ := insV_at hr5 hu
  rw [Addr.add_lit, Nat.zero_add]
  have hc' : ∀ j u, (insV p)[j]? = some u → w.cell? ⟨g, j, none⟩ = some u := fun j u hu => by
    have := hc j u hu
    rwa [Addr.add_lit, Nat.zero_add] at this
  by_cases hq : k = q
  · subst hq
    rw [List.getElem?_set_self hk] at h1
    cases h1
    have := World.cell?_setCells_in g y.cells (k * 5) w (fun r hr => by
      have hr5 : r < 5 := hr
      obtain ⟨z0, hz0⟩ : ∃ z0, p[k]? = some z0 := ⟨_, List.getElem?_eq_getElem hk⟩
      have hr' : r < z0.cells.length := hr5
      rw [hc' (k * 5 + r) _ ((insV_of hz0 hr5).trans (List.getElem?_eq_getElem hr'))]
      rfl) r hr5
    rw [this, ← h2]
    exact (List.getElem?_eq_getElem hr5).symm
  · rw [List.getElem?_set_ne hq] at h1
    rw [World.cell?_setCells_out g y.cells (k * 5) w ⟨g, q * 5 + r, none⟩ (fun _ _ => by show q * 5 + r < k * 5 ∨ k * 5 + 5 ≤ q * 5 + r; omega)]
    exact hc' _ u ((insV_of h1 hr5).trans h2)
theorem Reads.setA {w : World} {B g n : Nat} {p : List Ins} (h : Reads w B 5 (some ⟨g, 0, none⟩) n (insV p)) (k : Nat) (x : Ins) (hx : p[k]? = some x) (a : Int) : Reads (w.setCell ⟨g, k * 5 + 1, none⟩ (.int .u8 a)) B 5 (some ⟨g, 0, none⟩) n (insV (p.set k { x with a := a })) := by
  have hk : k < p.length := (List.getElem?_eq_some_iff.1 hx).1
  refine ⟨by rw [insV_len, List.length_set, ← insV_len, h.1], fun hn => ?_⟩
  obtain ⟨ad, e, hb, hc⟩ := h.2 hn
  cases e
  have hc' : ∀ j u, (insV p)[j]? = some u → w.cell? ⟨g, j, none⟩ = some u := fun j u hu => by
    have := hc j u hu
    rwa [Addr.add_lit, Nat.zero_add] at this
  refine ⟨_, rfl, hb, fun j u hu => ?_⟩
  obtain ⟨q, r, hr5, rfl⟩ : ∃ q r, r < 5 ∧ j = q * 5 + r := ⟨j / 5, j % 5, by omega, by omega⟩
  obtain ⟨z, h1, h2⟩ := insV_at hr5 hu
  rw [Addr.add_lit, Nat.zero_add]
  by_cases hq : k = q
  · subst hq
    rw [List.getElem?_set_self hk] at h1
    cases h1
    by_cases hr : r = 1
    · subst hr
      cases h2
      exact World.cell?_setCell_same w _ _ (hc' (k * 5 + 1) (.int .u8 x.a) ((insV_of hx (by omega)).trans rfl))
    · rw [World.cell?_setCell_other _ _ _ _ (fun e => by injection e; omega)]
      refine hc' _ u ((insV_of hx hr5).trans ?_)
      rw [← h2]
      match r, hr5, hr with
      | 0, _, _ => rfl
      | 2, _, _ => rfl
      | 3, _, _ => rfl
      | 4, _, _ => rfl
  · rw [List.getElem?_set_ne hq] at h1
    rw [World.cell?_setCell_other _ _ _ _ (fun e => by injection e; omega)]
    exact hc' _ u ((insV_of h1 hr5).trans h2)
/-! ### a walk's memory: blocks, lists apart from them, and one slice of instructions that is set -/
theorem Reads.keepC {w w' : World} {B B' size n : Nat} {A : Option Addr} {xs : List Value} (h : Reads w B size A n xs) (hB : B ≤ B') (hk : ∀ ad, A = some ad → ∀ p : Addr, p.block = ad.block → w'.cell? p = w.cell? p) : Reads w' B' size A n xs :=
  ⟨h.1, fun hn => by
    obtain ⟨ad, e, hb, hc⟩ := h.2 hn
    exact ⟨ad, e, by omega, fun j u hu => (hk ad e _ (block_of_add ad j)).trans (hc j u hu)⟩⟩
structure WQ (w : World) (H gq : Nat) (L : List Bk) (R : List Rd) (n : Nat) (ps : List Ins) (X : World) : Prop where
  aw : AW w L R X
  rg : ∀ e ∈ R, ∀ ad, e.A = some ad → w.heap.size + 2 ≤ ad.block ∧ ad.block < H
  q : Reads X X.heap.size 5 (some ⟨gq, 0, none⟩) n (insV ps)
  qb : ∃ cur, Blk X gq 28 cur
  hq : H ≤ gq
  ne : ∀ e ∈ L, e.g ≠ gq
  hH : w.heap.size + 2 ≤ H
section
variable {w X X' : World} {H gq n : Nat} {L : List Bk} {R : List Rd} {ps : List Ins}
theorem WQ.lt (h : WQ w H gq L R n ps X) : gq < X.heap.size := by obtain ⟨c, hb⟩ := h.qb; exact hb.lt
theorem WQ.frozen (h : WQ w H gq L R n ps X) (i : Nat) : X.frozen? ⟨gq, i, none⟩ = false := by obtain ⟨c, hb⟩ := h.qb; exact hb.frozen i
theorem WQ.call (h : WQ w H gq L R n ps X) (hb : Below X.heap.size X X') : WQ w H gq L R n ps X' :=
  ⟨h.aw.call hb, h.rg, (h.q.below hb).more hb.size, by obtain ⟨c, hB⟩ := h.qb; exact ⟨c, hB.below hb hB.lt⟩, h.hq, h.ne, h.hH⟩
theorem WQ.put (h : WQ w H gq L R n ps X) (t : TypeId) (cs : Array Value) {g : Nat} (hg : g = X.heap.size) : WQ w H gq (⟨g, t, cs⟩ :: L) R n ps (X.alloc (.cells cs t)) :=
  ⟨h.aw.put' t cs hg, h.rg, (h.q.alloc (Nat.le_refl _) _).more (by simp), by obtain ⟨c, hB⟩ := h.qb; exact ⟨c, hB.alloc _⟩, h.hq, fun e he => by
    rcases List.mem_cons.1 he with rfl | he
    · have := h.lt; show g ≠ gq; omega
    · exact h.ne e he, h.hH⟩
theorem WQ.less (h : WQ w H gq L R n ps X) {L' : List Bk} {R' : List Rd} (hl : L' ⊆ L) (hr : R' ⊆ R) : WQ w H gq L' R' n ps X :=
  ⟨h.aw.less hl hr, fun e he => h.rg e (hr he), h.q, h.qb, h.hq, fun e he => h.ne e (hl he), h.hH⟩
theorem WQ.upd {G : Nat} {t : TypeId} {cs : Array Value} (h : WQ w H gq (⟨G, t, cs⟩ :: L) R n ps X) (h1 : w.heap.size ≤ G) (h2 : G < w.heap.size + 2 ∨ H ≤ G) (hn : ∀ e ∈ L, e.g ≠ G) (i : Nat) (u : Value) : WQ w H gq (⟨G, t, cs.setIfInBounds i u⟩ :: L) R n ps (X.setCell ⟨G, i, none⟩ u) := by
  have hG : G ≠ gq := h.ne _ (.head _)
  refine ⟨⟨h.aw.b.setCell (p := ⟨G, i, none⟩) h1 u, fun e he => ?_, fun e he => ?_⟩, h.rg, ?_, ?_, h.hq, fun e he => ?_, h.hH⟩
  · rcases List.mem_cons.1 he with rfl | he
    · exact (h.aw.l _ (.head _)).set_ i u
    · exact (h.aw.l _ (.tail _ he)).far (p := ⟨G, i, none⟩) (hn e he) u
  · refine (h.aw.r e he).keepC (by simp) (fun ad hA p hp => World.cell?_setCell_other _ _ _ _ (fun e2 => ?_))
    have := h.rg e he ad hA
    rw [← e2] at hp
    dsimp only at hp
    omega
  · refine h.q.keepC (by simp) (fun ad hA p hp => World.cell?_setCell_other _ _ _ _ (fun e2 => ?_))
    cases hA
    rw [← e2] at hp
    exact hG hp
  · obtain ⟨c, hB⟩ := h.qb
    exact ⟨c, hB.far (p := ⟨G, i, none⟩) (fun e => hG e.symm) u⟩
  · rcases List.mem_cons.1 he with rfl | he
    · exact hG
    · exact h.ne e (.tail _ he)
theorem WQ.own (h : WQ w H gq L R n ps X) (hX' : X'.heap.size = X.heap.size) (hb : Below w.heap.size w X') (hk : ∀ b, b ≠ gq → X'.heap[b]? = X.heap[b]?) {ps' : List Ins} (hq : Reads X' X'.heap.size 5 (some ⟨gq, 0, none⟩) n (insV ps')) (hB : ∃ cur, Blk X' gq 28 cur) : WQ w H gq L R n ps' X' :=
  ⟨⟨hb, fun e he => (hk e.g (h.ne e he)).trans (h.aw.l e he), fun e he => (h.aw.r e he).keepC (by omega) (fun ad hA p hp => World.cell?_of_block (hk p.block (by have := h.rg e he ad hA; have := h.hq; omega)))⟩, h.rg, hq, hB, h.hq, h.ne, h.hH⟩
theorem WQ.setI (h : WQ w H gq L R n ps X) (k : Nat) (hk : k < ps.length) (y : Ins) : WQ w H gq L R n (ps.set k y) (X.setCells gq (k * 5) y.cells) := by
  have hg : w.heap.size ≤ gq := by have := h.hq; have := h.hH; omega
  obtain ⟨c, hB⟩ := h.qb
  refine h.own (by simp [World.setCells, Ins.cells]) ?_ (fun b hb => ?_) ?_ ⟨_, ((((hB.set_ (k * 5) _).set_ (k * 5 + 1) _).set_ (k * 5 + 1 + 1) _).set_ (k * 5 + 1 + 1 + 1) _).set_ (k * 5 + 1 + 1 + 1 + 1) _⟩
  · exact ((((h.aw.b.setCell (p := ⟨gq, _, none⟩) hg _).setCell (p := ⟨gq, _, none⟩) hg _).setCell (p := ⟨gq, _, none⟩) hg _).setCell (p := ⟨gq, _, none⟩) hg _).setCell (p := ⟨gq, _, none⟩) hg _
  · have f : ∀ (Y : World) (o : Nat) (v : Value), (Y.setCell ⟨gq, o, none⟩ v).heap[b]? = Y.heap[b]? := fun Y o v => Below.heap_setCell Y ⟨gq, o, none⟩ v b hb
    show (((((X.setCell _ _).setCell _ _).setCell _ _).setCell _ _).setCell _ _).heap[b]? = _
    rw [f, f, f, f, f]
  · exact (h.q.setI k hk y).more (by simp [World.setCells, Ins.cells])
theorem WQ.setA (h : WQ w H gq L R n ps X) (k : Nat) (x : Ins) (hx : ps[k]? = some x) (a : Int) : WQ w H gq L R n (ps.set k { x with a := a }) (X.setCell ⟨gq, k * 5 + 1, none⟩ (.int .u8 a)) := by
  have hg : w.heap.size ≤ gq := by have := h.hq; have := h.hH; omega
  obtain ⟨c, hB⟩ := h.qb
  exact h.own (by simp) (h.aw.b.setCell (p := ⟨gq, _, none⟩) hg _) (fun b hb => Below.heap_setCell X ⟨gq, _, none⟩ _ b hb) ((h.q.setA k x hx a).more (by simp)) ⟨_, hB.set_ _ _⟩
theorem WQ.there (h : WQ w H gq L R n ps X) (k : Nat) (hk : k < ps.length) : X.there gq (k * 5) 5 := fun j hj => by
  refine ⟨?_, h.frozen _⟩
  obtain ⟨ad, e, _, hc⟩ := h.q.2 (by have := h.q.ins_len; omega)
  cases e
  have hy : ps[k]? = some ps[k] := List.getElem?_eq_getElem hk
  have hj' : j < ps[k].cells.length := hj
  have := hc (k * 5 + j) _ ((insV_of hy hj).trans (List.getElem?_eq_getElem hj'))
  rw [Addr.add_lit, Nat.zero_add] at this
  rw [this]
  rfl
end
end Go.Proofs.Ytmljmabbopkpiaa
end

section
/- Contracts of instr, Made, Env and Same for walks over symbolic values. -/
namespace Go.Proofs.Ytmljmabbopkpiaa.Vm
open Go.RowKit
set_option linter.unusedVariables false
set_option linter.unusedSimpArgs false
set_option maxRecDepth 100000

/-! ### awake -/
def sAwake : Spec := fun args _ _ => match args with
  | [] => some (True, .bool true, [], [])
  | _ => none
theorem awake_ok : CallOk Try.prog 23 sAwake := by
  refine ⟨named_spec (by kernel_rfl), fun args h m c v rd wr hs hm hc w0 M β h' w R hrd hwr hst => ?_⟩
  unfold sAwake at hs
  split at hs
  · simp only [Option.some.injEq, Prod.mk.injEq] at hs
    obtain ⟨rfl, rfl, rfl, rfl⟩ := hs
    exact (awake18_c w).mono fun e w' he => post_read R trivial rfl he.1 he.2
  · cases hs

/-! ### Env -/
def sEnv : Spec := fun args _ _ => match args with
  | [a, b, c, d, e] => bif isI .u64 a && isI .u16 b && isI .u8 c && isI .u8 d && isI .u32 e then
      some ((0 ≤ iOf b ∧ iOf b ≤ 65535) ∧ (0 ≤ iOf c ∧ iOf c ≤ 255) ∧ (0 ≤ iOf d ∧ iOf d ≤ 255) ∧ (0 ≤ iOf e ∧ iOf e ≤ 4294967295), .agg [.int .u64 (iOf a), .int .i64 (iOf b), .int .i64 (iOf c % 17), .int .i64 (1 + iOf d), .int .i64 (iOf e)], [], []) else none
  | _ => none
theorem env_ok : CallOk Try.prog 26 sEnv := by
  refine ⟨named_spec (by kernel_rfl), fun args h m c v rd wr hs hm hc w0 M β h' w R hrd hwr hst => ?_⟩
  unfold sEnv at hs
  split at hs
  · rename_i a b c' d e
    obtain ⟨hb, hs⟩ := bif_some hs
    simp only [Option.some.injEq, Prod.mk.injEq] at hs
    obtain ⟨rfl, rfl, rfl, rfl⟩ := hs
    simp only [Bool.and_eq_true] at hb
    obtain ⟨⟨⟨⟨b1, b2⟩, b3⟩, b4⟩, b5⟩ := hb
    obtain ⟨⟨c1, c2⟩, ⟨c3, c4⟩, ⟨c5, c6⟩, c7, c8⟩ := hc
    simp only [denL, isI_den b1, isI_den b2, isI_den b3, isI_den b4, isI_den b5]
    exact (env_c (iOf a) (iOf b) (iOf c') (iOf d) (iOf e) w c1 c2 c3 c4 c5 c6 c7 c8).mono fun e w' he => post_read R (by simp [Stable, StableL]) rfl he.1 he.2
  · cases hs

theorem arrV_n {h : HM} {k z i k' s n' n : Nat} {pa : List Stp} {cp : Option Nat} {c : Prop} {f : Nat → SV} {rd : List Nat} (ha : arrV h k (.sl z i pa k' s n' cp) = some (c, n, f, rd)) : n = n' := by
  simp only [arrV] at ha
  split at ha
  · split at ha
    · have := (bif_some ha).2
      simp only [Option.some.injEq, Prod.mk.injEq] at this
      exact this.2.1.symm
    · cases ha
  · cases ha

/-! ### Made of law 14 -/
def sMade14 : Spec := fun args h m => match args with
  | [v] => match v, arrV h 5 v with
    | .sl _ _ _ _ _ _ (some cp), some (c, n, f, rd) =>
        some (c ∧ (∀ q, q < n → isIns (f q) = true) ∧ (∀ x ∈ ls insOf n f, x.ok) ∧ max n cp ≤ 9223372036854775807, .sl m m [] 5 0 (made14 (ls insOf n f)).length none, rd, [(m, .own 28 (.arr (made14 (ls insOf n f)).length 5 (prS (made14 (ls insOf n f)))) false)])
    | _, _ => none
  | _ => none
theorem made14_ok' : CallOk Try.prog 19 sMade14 := by
  refine ⟨named_spec (by kernel_rfl), fun args h m c v rd wr hs hm hc w0 M β h' w R hrd hwr hst => ?_⟩
  unfold sMade14 at hs
  split at hs
  · rename_i v0
    split at hs
    · rename_i z i pa k' s n' cp c' n f rd' ha
      simp only [Option.some.injEq, Prod.mk.injEq] at hs
      obtain ⟨rfl, rfl, rfl, rfl⟩ := hs
      obtain ⟨hc1, hi, hok, hcp⟩ := hc
      obtain ⟨A, cap, hden, hnc, hr⟩ := reads_of R ha hc1 hrd (by omega)
      rw [elems_ins hi] at hr
      have hcap : cap ≤ 9223372036854775807 := by
        have hn : n' = n := (arrV_n ha).symm
        simp only [SV.den, Option.getD_some] at hden
        injection hden with _ _ h3
        omega
      simp only [denL, hden]
      refine (made14_c (ls insOf n f) hok A n cap w hr hnc hcap).mono fun e w' he => ?_
      obtain ⟨p, rfl, ho, hb⟩ := he
      have hmd : h' m = .dead := (hwr _ (.head _)).trans (hm m (Nat.le_refl _))
      obtain ⟨e', R', hv⟩ := (R.below hb).made (f := prS (made14 (ls insOf n f))) hmd ho R.size (elems_prS _) prS_stable (fun g i a' hg hmi hai e => by
        have := R.lt i a' hmi hai
        obtain ⟨_, ⟨rfl, _⟩ | ⟨g', cap', cur, rfl, hg', _⟩⟩ := ho
        · cases hg
        · simp [Value.ownBlock] at hg
          omega)
      exact ⟨_, agree_setE hmd, R', stable_new, by rw [hv]⟩
    · cases hs
  · cases hs

/-! ### states -/
abbrev Sta := Go.Proofs.Ytmljmabbopkpiaa.St
def stS (s : Sta) (zc ic zs is_ : Nat) : SV := .agg [.int .i64 s.at_, .bool s.ended, .arr 8 1 fun q => .int .i64 (s.regs q), .sl zc ic [] 1 0 s.cells.length none, .int .i64 s.draws, .sl zs is_ [] 3 0 s.sends.length none]
def isSl : SV → Bool
  | .sl .. => true
  | _ => false
theorem isSl_cl {v : SV} {β : Env} (h : isSl v = true) : v.cl β = [v.den β] := by cases v <;> first | (cases h; done) | rfl
theorem den_state {β : Env} {a d cv xv : SV} {e : Bool} {rg : Nat → SV} (ha : isI .i64 a = true) (hr : ∀ q, q < 8 → isI .i64 (rg q) = true) (hd : isI .i64 d = true) (hc : isSl cv = true) (hx : isSl xv = true) (cs : List Int) (ss : List Snd) :
    (SV.agg [a, .bool e, .arr 8 1 rg, cv, d, xv]).den β = Go.Proofs.Ytmljmabbopkpiaa.St.v ⟨iOf a, e, fun q => iOf (rg q), cs, iOf d, ss⟩ (cv.den β) (xv.den β) := by
  rw [den_agg rfl, cl_agg]
  have h8 : (SV.arr 8 1 rg).cl β = int64s (ls iOf 8 rg) := by rw [cl_arr', elems_i64 hr]
  simp only [clL_cons, clL_nil, isI_cl ha, isI_cl hd, isSl_cl hc, isSl_cl hx, h8]
  rfl
theorem den_small {β : Env} {a d s cv : SV} {rg : Nat → SV} (ha : isI .u8 a = true) (hr : ∀ q, q < 8 → isI .i64 (rg q) = true) (hd : isI .u32 d = true) (hs : isI .u8 s = true) (hc : isSl cv = true) (cs : List Int) :
    (SV.agg [a, .arr 8 1 rg, cv, d, s]).den β = .agg (Sm.cs ⟨iOf a, fun q => iOf (rg q), cs, iOf d, iOf s⟩ (cv.den β)) := by
  rw [den_agg rfl, cl_agg]
  have h8 : (SV.arr 8 1 rg).cl β = int64s (ls iOf 8 rg) := by rw [cl_arr', elems_i64 hr]
  simp only [clL_cons, clL_nil, isI_cl ha, isI_cl hd, isI_cl hs, isSl_cl hc, h8]
  rfl
theorem den_env {β : Env} {a b c d e : SV} (ha : isI .u64 a = true) (hb : isI .i64 b = true) (hc : isI .i64 c = true) (hd : isI .i64 d = true) (he : isI .i64 e = true) :
    (SV.agg [a, b, c, d, e]).den β = Envi.v ⟨iOf a, iOf b, iOf c, iOf d, iOf e⟩ := by
  rw [den_agg rfl, cl_agg]
  simp only [clL_cons, clL_nil, isI_cl ha, isI_cl hb, isI_cl hc, isI_cl hd, isI_cl he]
  rfl
theorem arrV_sl {h : HM} {k : Nat} {v : SV} {x : Prop × Nat × (Nat → SV) × List Nat} (ha : arrV h k v = some x) : isSl v = true := by
  unfold arrV at ha
  split at ha
  · rfl
  · cases ha
/-! ### Do, where it fails -/
def zeroS (m : Nat) : SV := .agg [.int .i64 0, .bool false, .arr 8 1 fun _ => .int .i64 0, .sl m m [] 1 0 0 none, .int .i64 0, .sl (m + 1) (m + 1) [] 3 0 0 none]
def sDoFail : Spec := fun args h m => match args with
  | [pv, .agg [e0, e1, e2, e3, e4], .agg [s0, .bool s1, .arr 8 1 rg, cv, s4, xv]] => match arrV h 5 pv, arrV h 1 cv, arrV h 3 xv with
    | some (c1, n, f, r1), some (c2, nc, cf, r2), some (c3, ns, sf, r3) => bif isI .u64 e0 && isI .i64 e1 && isI .i64 e2 && isI .i64 e3 && isI .i64 e4 && isI .i64 s0 && isI .i64 s4 then
        some ((c1 ∧ c2 ∧ c3) ∧ (∀ q, q < n → isIns (f q) = true) ∧ (∀ x ∈ ls insOf n f, x.ok) ∧ (∀ q, q < 8 → isI .i64 (rg q) = true) ∧ (∀ q, q < nc → isI .i64 (cf q) = true) ∧ (∀ q, q < ns → isSnd (sf q) = true) ∧ n ≤ 1000000 ∧ ns ≤ 1000000 ∧
            topE (ls insOf n f) ⟨iOf e0, iOf e1, iOf e2, iOf e3, iOf e4⟩ ⟨iOf s0, s1, fun q => iOf (rg q), ls iOf nc cf, iOf s4, ls sndOf ns sf⟩ ≠ 0,
          .tup [zeroS m, .int .i64 (topE (ls insOf n f) ⟨iOf e0, iOf e1, iOf e2, iOf e3, iOf e4⟩ ⟨iOf s0, s1, fun q => iOf (rg q), ls iOf nc cf, iOf s4, ls sndOf ns sf⟩)], r1 ++ r2 ++ r3, [(m, .gone), (m + 1, .gone)]) else none
    | _, _, _ => none
  | _ => none
theorem gone2 {w0 w : World} {M : Nat → Prop} {β : Env} {h : HM} (R : Rep w0 M β h w) {m : Nat} (h1 : h m = .dead) (h2 : h (m + 1) = .dead) (e1 e2 : Option Addr × Nat) : Rep w0 M (setE (setE β m e1) (m + 1) e2) (wrs h [(m, .gone), (m + 1, .gone)]) w := by
  have R1 := R.birth m h1 e1 .gone trivial rfl trivial (fun a hm _ => by cases hm) (fun v a hv => by cases hv)
  exact R1.birth (m + 1) (by rw [upd_ne (by omega)]; exact h2) e2 .gone trivial rfl trivial (fun a hm _ => by cases hm) (fun v a hv => by cases hv)
theorem agree2 {β : Env} {h : HM} {m : Nat} (h1 : h m = .dead) (h2 : h (m + 1) = .dead) (e1 e2 : Option Addr × Nat) : ∀ i, (h i).born = true → β i = setE (setE β m e1) (m + 1) e2 i := fun i hi => by
  rw [setE_ne (by rintro rfl; rw [h2] at hi; cases hi), setE_ne (by rintro rfl; rw [h1] at hi; cases hi)]
theorem doFail_ok : CallOk Try.prog 31 sDoFail := by
  refine ⟨named_spec (by kernel_rfl), fun args h m c v rd wr hs hm hc w0 M β h' w R hrd hwr hst => ?_⟩
  unfold sDoFail at hs
  split at hs
  · rename_i pv e0 e1 e2 e3 e4 s0 s1 rg cv s4 xv
    split at hs
    · rename_i c1 n f r1 c2 nc cf r2 c3 ns sf r3 a1 a2 a3
      obtain ⟨hb, hs⟩ := bif_some hs
      simp only [Option.some.injEq, Prod.mk.injEq] at hs
      obtain ⟨rfl, rfl, rfl, rfl⟩ := hs
      simp only [Bool.and_eq_true] at hb
      obtain ⟨⟨⟨⟨⟨⟨b0, b1⟩, b2⟩, b3⟩, b4⟩, b5⟩, b6⟩ := hb
      obtain ⟨⟨k1, k2, k3⟩, hi, hok, hrg, hcf, hsf, hn, hns, hE⟩ := hc
      obtain ⟨A, cA, dA, _, rA⟩ := reads_of R a1 k1 (fun i hi => hrd i (List.mem_append_left _ (List.mem_append_left _ hi))) (by omega)
      obtain ⟨B, cB, dB, _, rB⟩ := reads_of R a2 k2 (fun i hi => hrd i (List.mem_append_left _ (List.mem_append_right _ hi))) (by omega)
      obtain ⟨D, cD, dD, _, rD⟩ := reads_of R a3 k3 (fun i hi => hrd i (List.mem_append_right _ hi)) (by omega)
      rw [elems_ins hi] at rA
      rw [elems_i64 hcf] at rB
      rw [elems_snd hsf] at rD
      have d1 := den_env (β := β) b0 b1 b2 b3 b4
      have d2 := den_state (β := β) (e := s1) b5 hrg b6 (arrV_sl a2) (arrV_sl a3) (ls iOf nc cf) (ls sndOf ns sf)
      simp only [denL, d1, d2, dA, dB, dD]
      refine (do_z (ls insOf n f) hok _ _ _ rfl hE A B D n cA nc ns cB cD (by omega) hns w rA rB rD).mono fun e w' he => ?_
      obtain ⟨A1, j1, A2, j2, rfl, hbl⟩ := he
      have hm1 : h' m = .dead := (hwr _ (.head _)).trans (hm m (Nat.le_refl _))
      have hm2 : h' (m + 1) = .dead := (hwr _ (.tail _ (.head _))).trans (hm (m + 1) (by omega))
      refine ⟨_, agree2 hm1 hm2 (A1, j1) (A2, j2), gone2 (R.below hbl) hm1 hm2 (A1, j1) (A2, j2), ?_, ?_⟩
      · have q1 : (wrs h' [(m, HB.gone), (m + 1, HB.gone)] m).born = true := by show (upd (upd h' m .gone) (m + 1) .gone m).born = true; rw [upd_ne (by omega), upd_same]; rfl
        have q2 : (wrs h' [(m, HB.gone), (m + 1, HB.gone)] (m + 1)).born = true := by show (upd (upd h' m .gone) (m + 1) .gone (m + 1)).born = true; rw [upd_same]; rfl
        simp only [zeroS, Stable, StableL, q1, q2, implies_true, and_self]
      · have z1 : (setE (setE β m (A1, j1)) (m + 1) (A2, j2)) m = (A1, j1) := by rw [setE_ne (by omega), setE_same]
        have z2 : (setE (setE β m (A1, j1)) (m + 1) (A2, j2)) (m + 1) = (A2, j2) := setE_same ..
        have dz := den_state (β := setE (setE β m (A1, j1)) (m + 1) (A2, j2)) (a := .int .i64 0) (d := .int .i64 0) (e := false) (rg := fun _ => .int .i64 0) (cv := .sl m m [] 1 0 0 none) (xv := .sl (m + 1) (m + 1) [] 3 0 0 none) rfl (fun _ _ => rfl) rfl rfl rfl [] []
        congr 1
        simp only [SV.den, denL]
        have e1 : (zeroS m).den (setE (setE β m (A1, j1)) (m + 1) (A2, j2)) = .agg #[.int .i64 0, .bool false, .int .i64 0, .int .i64 0, .int .i64 0, .int .i64 0, .int .i64 0, .int .i64 0, .int .i64 0, .int .i64 0, .slice A1 0 j1, .int .i64 0, .slice A2 0 j2] := by
          unfold zeroS
          rw [dz]
          simp [Go.Proofs.Ytmljmabbopkpiaa.St.v, SV.den, z1, z2, iOf]
        rw [e1]
    · cases hs
  · cases hs

/-! ### Clone of instructions -/
def sClone5 : Spec := fun args h m => match args with
  | [v] => match arrV h 5 v with
    | some (c, n, f, rd) => some (c ∧ (∀ q, q < n → isIns (f q) = true) ∧ n ≤ 1000000, .sl m m [] 5 0 n none, rd, [(m, .own 28 (.arr n 5 fun q => insS (insOf (f q))) false)])
    | _ => none
  | _ => none
theorem clone5_ok : CallOk Try.prog 32 sClone5 := by
  refine ⟨named_spec (by kernel_rfl), fun args h m c v rd wr hs hm hc w0 M β h' w R hrd hwr hst => ?_⟩
  unfold sClone5 at hs
  split at hs
  · rename_i v0
    split at hs
    · rename_i c' n f rd' ha
      simp only [Option.some.injEq, Prod.mk.injEq] at hs
      obtain ⟨rfl, rfl, rfl, rfl⟩ := hs
      obtain ⟨hc1, hi, hn⟩ := hc
      obtain ⟨A, cap, hden, hnc, hr⟩ := reads_of R ha hc1 hrd (by omega)
      simp only [denL, hden]
      refine (cloneIns_c A n cap _ w hr (fun u hu => elems_sane u hu) (by omega)).mono fun e w' he => ?_
      obtain ⟨p, rfl, ho, hb⟩ := he
      have hmd : h' m = .dead := (hwr _ (.head _)).trans (hm m (Nat.le_refl _))
      obtain ⟨e', R', hv⟩ := (R.below hb).made (f := fun q => insS (insOf (f q))) hmd ho R.size (by
          rw [elems_ins hi, elems_ins (fun q _ => rfl)]
          congr 1) (fun q => by simp [insS, Stable, StableL]) (fun g i a' hg hmi hai e => by
        have := R.lt i a' hmi hai
        obtain ⟨_, ⟨rfl, _⟩ | ⟨g', cap', cur, rfl, hg', _⟩⟩ := ho
        · cases hg
        · simp [Value.ownBlock] at hg
          omega)
      exact ⟨_, agree_setE hmd, R', stable_new, by rw [hv]⟩
    · cases hs
  · cases hs

/-! ### Same -/
/-- the same; of a slice of no elements nothing is asked -/
def arrV0 (h : HM) (k : Nat) (v : SV) : Option (Prop × Nat × (Nat → SV) × List Nat) := match v with
  | .sl z i pa k' s n c => match n with
    | 0 => some (True, 0, fun _ => .tup [], [])
    | _ + 1 => arrV h k v
  | _ => none
theorem reads_of0 {w0 w : World} {M : Nat → Prop} {β : Env} {h h' : HM} (R : Rep w0 M β h' w) {k : Nat} {v : SV} {c : Prop} {n : Nat} {f : Nat → SV} {rd : List Nat} (ha : arrV0 h k v = some (c, n, f, rd)) (hc : c) (hrd : ∀ i ∈ rd, h' i = h i) (hk : 0 < k) :
    isSl v = true ∧ ∃ A cap, v.den β = .slice A n cap ∧ Reads w w.heap.size k A n (elems β k n f) := by
  unfold arrV0 at ha
  split at ha
  · rename_i z i pa k' s n' cp
    split at ha
    · simp only [Option.some.injEq, Prod.mk.injEq] at ha
      obtain ⟨rfl, rfl, rfl, rfl⟩ := ha
      exact ⟨rfl, (β z).1, max 0 (cp.getD (β z).2), by simp only [SV.den, if_true], by simp [elems], fun h => absurd h (by omega)⟩
    · obtain ⟨A, cap, h1, _, h3⟩ := reads_of R ha hc hrd hk
      exact ⟨rfl, A, cap, h1, h3⟩
  · cases ha
def sSame : Spec := fun args h _ => match args with
  | [.agg [s0, .bool s1, .arr 8 1 rg, cv, s4, xv], .agg [t0, .bool t1, .arr 8 1 rg', cv', t4, xv']] => match arrV0 h 1 cv, arrV0 h 3 xv, arrV0 h 1 cv', arrV0 h 3 xv' with
    | some (c1, nc, cf, r1), some (c2, ns, sf, r2), some (c3, nc', cf', r3), some (c4, ns', sf', r4) => bif isI .i64 s0 && isI .i64 s4 && isI .i64 t0 && isI .i64 t4 then
        some ((c1 ∧ c2 ∧ c3 ∧ c4) ∧ ((∀ q, q < 8 → isI .i64 (rg q) = true) ∧ (∀ q, q < 8 → isI .i64 (rg' q) = true)) ∧ ((∀ q, q < nc → isI .i64 (cf q) = true) ∧ (∀ q, q < nc' → isI .i64 (cf' q) = true)) ∧ ((∀ q, q < ns → isSnd (sf q) = true) ∧ (∀ q, q < ns' → isSnd (sf' q) = true)) ∧ nc ≤ 1000000 ∧ ns ≤ 1000000,
          .bool (sameB ⟨iOf s0, s1, fun q => iOf (rg q), ls iOf nc cf, iOf s4, ls sndOf ns sf⟩ ⟨iOf t0, t1, fun q => iOf (rg' q), ls iOf nc' cf', iOf t4, ls sndOf ns' sf'⟩), r1 ++ r2 ++ r3 ++ r4, []) else none
    | _, _, _, _ => none
  | _ => none
theorem same_ok : CallOk Try.prog 30 sSame := by
  refine ⟨named_spec (by kernel_rfl), fun args h m c v rd wr hs hm hc w0 M β h' w R hrd hwr hst => ?_⟩
  unfold sSame at hs
  split at hs
  · rename_i s0 s1 rg cv s4 xv t0 t1 rg' cv' t4 xv'
    split at hs
    · rename_i c1 nc cf r1 c2 ns sf r2 c3 nc' cf' r3 c4 ns' sf' r4 a1 a2 a3 a4
      obtain ⟨hb, hs⟩ := bif_some hs
      simp only [Option.some.injEq, Prod.mk.injEq] at hs
      obtain ⟨rfl, rfl, rfl, rfl⟩ := hs
      simp only [Bool.and_eq_true] at hb
      obtain ⟨⟨⟨b0, b1⟩, b2⟩, b3⟩ := hb
      obtain ⟨⟨k1, k2, k3, k4⟩, ⟨g1, g2⟩, ⟨g3, g4⟩, ⟨g5, g6⟩, hnc, hns⟩ := hc
      obtain ⟨l1, A, cA, dA, rA⟩ := reads_of0 R a1 k1 (fun i hi => hrd i (List.mem_append_left _ (List.mem_append_left _ (List.mem_append_left _ hi)))) (by omega)
      obtain ⟨l2, B, cB, dB, rB⟩ := reads_of0 R a2 k2 (fun i hi => hrd i (List.mem_append_left _ (List.mem_append_left _ (List.mem_append_right _ hi)))) (by omega)
      obtain ⟨l3, C, cC, dC, rC⟩ := reads_of0 R a3 k3 (fun i hi => hrd i (List.mem_append_left _ (List.mem_append_right _ hi))) (by omega)
      obtain ⟨l4, D, cD, dD, rD⟩ := reads_of0 R a4 k4 (fun i hi => hrd i (List.mem_append_right _ hi)) (by omega)
      rw [elems_i64 g3] at rA
      rw [elems_snd g5] at rB
      rw [elems_i64 g4] at rC
      rw [elems_snd g6] at rD
      have d1 := den_state (β := β) (e := s1) b0 g1 b1 l1 l2 (ls iOf nc cf) (ls sndOf ns sf)
      have d2 := den_state (β := β) (e := t1) b2 g2 b3 l3 l4 (ls iOf nc' cf') (ls sndOf ns' sf')
      simp only [denL, d1, d2, dA, dB, dC, dD]
      exact (same_c ⟨iOf s0, s1, fun q => iOf (rg q), ls iOf nc cf, iOf s4, ls sndOf ns sf⟩ ⟨iOf t0, t1, fun q => iOf (rg' q), ls iOf nc' cf', iOf t4, ls sndOf ns' sf'⟩ A B C D nc ns nc' ns' cA cB cC cD w rA rB rC rD hnc hns).mono fun e w' he => post_read R trivial rfl he.1 he.2
    · cases hs
  · cases hs

/-! ### Made of law 18 -/
def isSmall (a d s : SV) : Bool := isI .u8 a && isI .u32 d && isI .u8 s
def made18V (a d s : SV) (rg : Nat → SV) (n : Nat) (f : Nat → SV) (l : Nat) : Sta := made18 ⟨iOf a, fun q => iOf (rg q), ls iOf n f, iOf d, iOf s⟩ l
def sMade18 : Spec := fun args h m => match args with
  | [.agg [a, .arr 8 1 rg, cv, d, s], .sl _ _ _ _ _ l _] => match cv, arrV h 1 cv with
    | .sl _ _ _ _ _ _ (some cp), some (c, n, f, rd) => bif isSmall a d s then
        some (c ∧ (∀ q, q < 8 → isI .i64 (rg q) = true) ∧ (∀ q, q < n → isI .i64 (f q) = true) ∧ (Sm.ok ⟨iOf a, fun q => iOf (rg q), ls iOf n f, iOf d, iOf s⟩) ∧ max n cp ≤ 9223372036854775807 ∧ l ≤ 1000000,
          stS (made18V a d s rg n f l) m m (m + 1) (m + 1), rd, [(m, .own 2 (.arr (made18V a d s rg n f l).cells.length 1 (i64S (made18V a d s rg n f l).cells)) false), (m + 1, .own 64 (.arr (made18V a d s rg n f l).sends.length 3 (sndsS (made18V a d s rg n f l).sends)) false)]) else none
    | _, _ => none
  | _ => none
theorem made18_ok : CallOk Try.prog 24 sMade18 := by
  refine ⟨named_spec (by kernel_rfl), fun args h m c v rd wr hs hm hc w0 M β h' w R hrd hwr hst => ?_⟩
  unfold sMade18 at hs
  split at hs
  · rename_i a rg cv d s z0 i0 pa0 k0 s00 l c0
    split at hs
    · rename_i z i pa k' s' n' cp c' n f rd' ha
      obtain ⟨hb, hs⟩ := bif_some hs
      simp only [Option.some.injEq, Prod.mk.injEq] at hs
      obtain ⟨rfl, rfl, rfl, rfl⟩ := hs
      simp only [isSmall, Bool.and_eq_true] at hb
      obtain ⟨⟨b0, b1⟩, b2⟩ := hb
      obtain ⟨hc1, hrg, hi, hok, hcp, hl⟩ := hc
      obtain ⟨A, cap, hden, hnc, hr⟩ := reads_of R ha hc1 hrd (by omega)
      rw [elems_i64 hi] at hr
      have hcap : cap ≤ 9223372036854775807 := by
        have hn : n' = n := (arrV_n ha).symm
        simp only [SV.den, Option.getD_some] at hden
        injection hden with _ _ h3
        omega
      have d1 := den_small (β := β) b0 hrg b1 b2 (arrV_sl ha) (ls iOf n f)
      have d2 : (SV.sl z0 i0 pa0 k0 s00 l c0).den β = .slice (if l = 0 then (β z0).1 else some (((β i0).1.getD ⟨0, 0, none⟩).add (offp pa0 + s00 * k0))) l (max l (c0.getD (β z0).2)) := rfl
      simp only [denL, d1, d2, hden]
      refine (made18_c ⟨iOf a, fun q => iOf (rg q), ls iOf n f, iOf d, iOf s⟩ hok A _ n cap l _ w hr hnc hcap hl).mono fun e w' he => ?_
      obtain ⟨Cv, Sv, rfl, ho1, ho2, hbl⟩ := he
      have hm1 : h' m = .dead := (hwr _ (.head _)).trans (hm m (Nat.le_refl _))
      have hm2 : h' (m + 1) = .dead := (hwr _ (.tail _ (.head _))).trans (hm (m + 1) (by omega))
      have newblk : ∀ {t k n : Nat} {v : Value} {xs : List Value}, w'.ownsRow w.heap.size t k v n xs → ∀ g i a', v.ownBlock = some g → (h' i).mine = true → (β i).1 = some a' → a'.block ≠ g := fun ho g i a' hg hmi hai e => by
        have := R.lt i a' hmi hai
        obtain ⟨_, ⟨rfl, _⟩ | ⟨g', cap', cur, rfl, hg', _⟩⟩ := ho
        · cases hg
        · simp [Value.ownBlock] at hg
          omega
      obtain ⟨e1, R1, hv1⟩ := (R.below hbl).made (f := i64S (made18V a d s rg n f l).cells) hm1 ho1 R.size (elems_i64S _) i64S_stable (newblk ho1)
      have hm2' : upd h' m (.own 2 (.arr (made18V a d s rg n f l).cells.length 1 (i64S (made18V a d s rg n f l).cells)) false) (m + 1) = .dead := by rw [upd_ne (by omega)]; exact hm2
      obtain ⟨e2, R2, hv2⟩ := R1.made (f := sndsS (made18V a d s rg n f l).sends) hm2' ho2 R.size (by exact elems_sndsS _) sndsS_stable (fun g i a' hg hmi hai e => by
        by_cases him : i = m
        · subst him
          rw [setE_same] at hai
          have ht1 := R1.blk i
          rw [upd_same] at ht1
          rcases ht1 with ⟨g1, cs1, hb1, hc1, _⟩ | ⟨hb1, _⟩
          · rw [setE_same] at hb1
            rw [hai] at hb1
            injection hb1 with hb1
            subst hb1
            obtain ⟨_, ⟨rfl, _⟩ | ⟨g', cap', cur, rfl, hg', hcur, _⟩⟩ := ho2
            · cases hg
            · simp [Value.ownBlock] at hg
              subst hg
              simp only at e
              subst e
              rw [hc1] at hcur
              injection hcur with hcur
              injection hcur with _ ht
              revert ht
              decide
          · rw [setE_same] at hb1; rw [hb1] at hai; cases hai
        · rw [upd_ne him] at hmi
          rw [setE_ne him] at hai
          exact newblk ho2 g i a' hg hmi hai e)
      refine ⟨_, fun i hi => ?_, R2, ?_, ?_⟩
      · rw [setE_ne (by rintro rfl; rw [hm2] at hi; cases hi), setE_ne (by rintro rfl; rw [hm1] at hi; cases hi)]
      · have q1 : (wrs h' [(m, .own 2 (.arr (made18V a d s rg n f l).cells.length 1 (i64S (made18V a d s rg n f l).cells)) false), (m + 1, .own 64 (.arr (made18V a d s rg n f l).sends.length 3 (sndsS (made18V a d s rg n f l).sends)) false)] m).born = true := by
          show (upd (upd h' m _) (m + 1) _ m).born = true
          rw [upd_ne (by omega), upd_same]; rfl
        have q2 : (wrs h' [(m, .own 2 (.arr (made18V a d s rg n f l).cells.length 1 (i64S (made18V a d s rg n f l).cells)) false), (m + 1, .own 64 (.arr (made18V a d s rg n f l).sends.length 3 (sndsS (made18V a d s rg n f l).sends)) false)] (m + 1)).born = true := by
          show (upd (upd h' m _) (m + 1) _ (m + 1)).born = true
          rw [upd_same]; rfl
        simp only [stS, Stable, StableL, q1, q2, implies_true, and_self]
      · congr 1
        have dz := den_state (β := setE (setE β m e1) (m + 1) e2) (a := .int .i64 (made18V a d s rg n f l).at_) (d := .int .i64 (made18V a d s rg n f l).draws) (e := (made18V a d s rg n f l).ended) (rg := fun q => .int .i64 ((made18V a d s rg n f l).regs q)) (cv := .sl m m [] 1 0 (made18V a d s rg n f l).cells.length none) (xv := .sl (m + 1) (m + 1) [] 3 0 (made18V a d s rg n f l).sends.length none) rfl (fun _ _ => rfl) rfl rfl rfl (made18V a d s rg n f l).cells (made18V a d s rg n f l).sends
        have z1 : Cv = (SV.sl m m [] 1 0 (made18V a d s rg n f l).cells.length none).den (setE (setE β m e1) (m + 1) e2) := by
          rw [hv1]
          simp only [SV.den, setE_same, setE_ne (show m ≠ m + 1 by omega)]
          rfl
        unfold stS
        rw [dz, ← z1, hv2]
        rfl
    · cases hs
  · cases hs
end Go.Proofs.Ytmljmabbopkpiaa.Vm
end

section
/- What instr.Do does, for walks over symbolic values. -/
namespace Go.Proofs.Ytmljmabbopkpiaa.Vm
open Go.RowKit
set_option linter.unusedVariables false
set_option linter.unusedSimpArgs false
set_option maxRecDepth 100000

/-- the two blocks of a state that is made -/
def stB (s : Sta) (m : Nat) : List (Nat × HB) := [(m, .own 2 (.arr s.cells.length 1 (i64S s.cells)) false), (m + 1, .own 64 (.arr s.sends.length 3 (sndsS s.sends)) false)]
theorem made_sta {w0 w w' : World} {M : Nat → Prop} {β : Env} {h' : HM} {m : Nat} {Cv Sv : Value} (s : Sta) (R : Rep w0 M β h' w) (hbl : Below w.heap.size w w') (hm1 : h' m = .dead) (hm2 : h' (m + 1) = .dead)
    (ho1 : w'.ownsRow w.heap.size 2 1 Cv s.cells.length (int64s s.cells)) (ho2 : w'.ownsRow w.heap.size 64 3 Sv s.sends.length (sndsV s.sends)) :
    ∃ β', (∀ i, (h' i).born = true → β i = β' i) ∧ Rep w0 M β' (wrs h' (stB s m)) w' ∧ Stable (wrs h' (stB s m)) (stS s m m (m + 1) (m + 1)) ∧ s.v Cv Sv = (stS s m m (m + 1) (m + 1)).den β' := by
  have newblk : ∀ {t k n : Nat} {v : Value} {xs : List Value}, w'.ownsRow w.heap.size t k v n xs → ∀ g i a', v.ownBlock = some g → (h' i).mine = true → (β i).1 = some a' → a'.block ≠ g := fun ho g i a' hg hmi hai e => by
    have := R.lt i a' hmi hai
    obtain ⟨_, ⟨rfl, _⟩ | ⟨g', cap', cur, rfl, hg', _⟩⟩ := ho
    · cases hg
    · simp [Value.ownBlock] at hg
      omega
  obtain ⟨e1, R1, hv1⟩ := (R.below hbl).made (f := i64S s.cells) hm1 ho1 R.size (elems_i64S _) i64S_stable (newblk ho1)
  have hm2' : upd h' m (.own 2 (.arr s.cells.length 1 (i64S s.cells)) false) (m + 1) = .dead := by rw [upd_ne (by omega)]; exact hm2
  obtain ⟨e2, R2, hv2⟩ := R1.made (f := sndsS s.sends) hm2' ho2 R.size (by exact elems_sndsS _) sndsS_stable (fun g i a' hg hmi hai e => by
    by_cases him : i = m
    · subst him
      rw [setE_same] at hai
      have ht1 := R1.blk i
      rw [upd_same] at ht1
      rcases ht1 with ⟨g1, cs1, hb1, hc1, _⟩ | ⟨hb1, _⟩
      · rw [setE_same] at hb1
        rw [hai] at hb1
        injection hb1 with hb1
        subst hb1
        obtain ⟨_, ⟨rfl, _⟩ | ⟨g', cap', cur, rfl, hg', hcur, _⟩⟩ := ho2
        · cases hg
        · simp [Value.ownBlock] at hg
          subst hg
          simp only at e
          subst e
          rw [hc1] at hcur
          injection hcur with hcur
          injection hcur with _ ht
          revert ht
          decide
      · rw [setE_same] at hb1; rw [hb1] at hai; cases hai
    · rw [upd_ne him] at hmi
      rw [setE_ne him] at hai
      exact newblk ho2 g i a' hg hmi hai e)
  refine ⟨_, fun i hi => ?_, R2, ?_, ?_⟩
  · rw [setE_ne (by rintro rfl; rw [hm2] at hi; cases hi), setE_ne (by rintro rfl; rw [hm1] at hi; cases hi)]
  · have q1 : (wrs h' (stB s m) m).born = true := by
      show (upd (upd h' m _) (m + 1) _ m).born = true
      rw [upd_ne (by omega), upd_same]; rfl
    have q2 : (wrs h' (stB s m) (m + 1)).born = true := by
      show (upd (upd h' m _) (m + 1) _ (m + 1)).born = true
      rw [upd_same]; rfl
    simp only [stS, Stable, StableL, q1, q2, implies_true, and_self]
  · have dz := den_state (β := setE (setE β m e1) (m + 1) e2) (a := .int .i64 s.at_) (d := .int .i64 s.draws) (e := s.ended) (rg := fun q => .int .i64 (s.regs q)) (cv := .sl m m [] 1 0 s.cells.length none) (xv := .sl (m + 1) (m + 1) [] 3 0 s.sends.length none) rfl (fun _ _ => rfl) rfl rfl rfl s.cells s.sends
    have z1 : Cv = (SV.sl m m [] 1 0 s.cells.length none).den (setE (setE β m e1) (m + 1) e2) := by
      rw [hv1]
      simp only [SV.den, setE_same, setE_ne (show m ≠ m + 1 by omega)]
    unfold stS
    rw [dz, ← z1, hv2]
    rfl
/-! ### Do -/
def doTS (e0 e1 e2 e3 e4 s0 s4 : SV) (s1 : Bool) (rg : Nat → SV) (n nc ns : Nat) (f cf sf : Nat → SV) : Sta := topS (ls insOf n f) ⟨iOf e0, iOf e1, iOf e2, iOf e3, iOf e4⟩ ⟨iOf s0, s1, fun q => iOf (rg q), ls iOf nc cf, iOf s4, ls sndOf ns sf⟩
def doTE (e0 e1 e2 e3 e4 s0 s4 : SV) (s1 : Bool) (rg : Nat → SV) (n nc ns : Nat) (f cf sf : Nat → SV) : Int := topE (ls insOf n f) ⟨iOf e0, iOf e1, iOf e2, iOf e3, iOf e4⟩ ⟨iOf s0, s1, fun q => iOf (rg q), ls iOf nc cf, iOf s4, ls sndOf ns sf⟩
def sDo : Spec := fun args h m => match args with
  | [pv, .agg [e0, e1, e2, e3, e4], .agg [s0, .bool s1, .arr 8 1 rg, cv, s4, xv]] => match arrV h 5 pv, arrV h 1 cv, arrV h 3 xv with
    | some (c1, n, f, r1), some (c2, nc, cf, r2), some (c3, ns, sf, r3) => bif isI .u64 e0 && isI .i64 e1 && isI .i64 e2 && isI .i64 e3 && isI .i64 e4 && isI .i64 s0 && isI .i64 s4 then
        some ((c1 ∧ c2 ∧ c3) ∧ (∀ q, q < n → isIns (f q) = true) ∧ (∀ x ∈ ls insOf n f, x.ok) ∧ (∀ q, q < 8 → isI .i64 (rg q) = true) ∧ (∀ q, q < nc → isI .i64 (cf q) = true) ∧ (∀ q, q < ns → isSnd (sf q) = true) ∧ n ≤ 1000000 ∧ ns ≤ 1000000,
          .tup [stS (doTS e0 e1 e2 e3 e4 s0 s4 s1 rg n nc ns f cf sf) m m (m + 1) (m + 1), .int .i64 (doTE e0 e1 e2 e3 e4 s0 s4 s1 rg n nc ns f cf sf)], r1 ++ r2 ++ r3, stB (doTS e0 e1 e2 e3 e4 s0 s4 s1 rg n nc ns f cf sf) m) else none
    | _, _, _ => none
  | _ => none
theorem do_ok : CallOk Try.prog 31 sDo := by
  refine ⟨named_spec (by kernel_rfl), fun args h m c v rd wr hs hm hc w0 M β h' w R hrd hwr hst => ?_⟩
  unfold sDo at hs
  split at hs
  · rename_i pv e0 e1 e2 e3 e4 s0 s1 rg cv s4 xv
    split at hs
    · rename_i c1 n f r1 c2 nc cf r2 c3 ns sf r3 a1 a2 a3
      obtain ⟨hb, hs⟩ := bif_some hs
      simp only [Option.some.injEq, Prod.mk.injEq] at hs
      obtain ⟨rfl, rfl, rfl, rfl⟩ := hs
      simp only [Bool.and_eq_true] at hb
      obtain ⟨⟨⟨⟨⟨⟨b0, b1⟩, b2⟩, b3⟩, b4⟩, b5⟩, b6⟩ := hb
      obtain ⟨⟨k1, k2, k3⟩, hi, hok, hrg, hcf, hsf, hn, hns⟩ := hc
      obtain ⟨A, cA, dA, _, rA⟩ := reads_of R a1 k1 (fun i hi => hrd i (List.mem_append_left _ (List.mem_append_left _ hi))) (by omega)
      obtain ⟨B, cB, dB, _, rB⟩ := reads_of R a2 k2 (fun i hi => hrd i (List.mem_append_left _ (List.mem_append_right _ hi))) (by omega)
      obtain ⟨D, cD, dD, _, rD⟩ := reads_of R a3 k3 (fun i hi => hrd i (List.mem_append_right _ hi)) (by omega)
      rw [elems_ins hi] at rA
      rw [elems_i64 hcf] at rB
      rw [elems_snd hsf] at rD
      have d1 := den_env (β := β) b0 b1 b2 b3 b4
      have d2 := den_state (β := β) (e := s1) b5 hrg b6 (arrV_sl a2) (arrV_sl a3) (ls iOf nc cf) (ls sndOf ns sf)
      simp only [denL, d1, d2, dA, dB, dD]
      refine (Do_c A n cA (by omega) (ls insOf n f) hok _ _ B D nc ns cB cD hns w rA rB rD).mono fun e w' he => ?_
      obtain ⟨C, S, rfl, ho1, ho2, hbl⟩ := he
      have hm1 : h' m = .dead := (hwr _ (.head _)).trans (hm m (Nat.le_refl _))
      have hm2 : h' (m + 1) = .dead := (hwr _ (.tail _ (.head _))).trans (hm (m + 1) (by omega))
      obtain ⟨β', g1, g2, g3, g4⟩ := made_sta (doTS e0 e1 e2 e3 e4 s0 s4 s1 rg n nc ns f cf sf) R hbl hm1 hm2 ho1 ho2
      refine ⟨β', g1, g2, ⟨g3, trivial, trivial⟩, ?_⟩
      simp only [SV.den, denL, ← g4]
      rfl
    · cases hs
  · cases hs
end Go.Proofs.Ytmljmabbopkpiaa.Vm
end

section
/- differ. -/
namespace Go.Proofs.Ytmljmabbopkpiaa.Vm
open Go.RowKit
attribute [local push_cast] runR opG gtmp gval gus opX tmpsOf tm tmO tmP restr look look2 tab tys zs ets eqB eqBL allB numOf ieq Int.cast_ofNat_Int Int.ofNat_zero beq_true beq_false frameOf ev evL ofV opV loadV noW pushF wrsL setH allBorn allGone HB.born HB.isGone HB.val SV.plain dstOk hp nav fitsT SV.size sizeL SV.isAgg TK.size TK.agg bin binE binN binI arN arI cmpN cmpI keq kn narrow callV storeV setp fillV buildV buildSliceV makeV sliceV appendV copyV List.isEmpty_nil srcV evO asN ite_t ite_f ite_bool ite_int ite_nat maxV v_beq v_ble v_blt cond_true cond_false List.getElem?_cons_zero List.getElem?_cons_succ List.getD_cons_zero List.getD_cons_succ List.getD_nil List.length_cons List.length_nil List.take_succ_cons List.take_zero List.set_cons_zero List.set_cons_succ List.cons_append List.nil_append List.append_assoc List.replicate_succ List.replicate_zero Nat.zero_add Nat.add_zero decide_true decide_false Bool.true_and Bool.and_true Bool.false_and Bool.and_false Bool.true_or Bool.or_true Bool.false_or Bool.or_false beq_self_eq_true Bool.or_self Nat.lt_irrefl Nat.not_lt_zero Nat.le_refl Option.getD_some Option.getD_none BEq.rfl Bool.not_true Bool.not_false Bool.cond_true_left Bool.cond_false_right
set_option linter.unusedVariables false
set_option linter.unusedSimpArgs false
set_option maxRecDepth 100000
set_option maxHeartbeats 4000000
def cD : FuncId → Option Spec := look2 []
theorem cD_ok : ∀ f S, cD f = some S → CallOk Try.prog f S := fun f S h => by cases h
def countNe (xs ys : List Int) : Nat → Nat
  | 0 => 0
  | j + 1 => countNe xs ys j + if xs.getD j 0 = ys.getD j 0 then 0 else 1
theorem countNe_le (xs ys : List Int) (j : Nat) : countNe xs ys j ≤ j := by
  induction j with
  | zero => exact Nat.le_refl _
  | succ j ih => simp only [countNe]; split <;> omega
def differI (xs ys : List Int) : Int := if xs.length = ys.length then countNe xs ys xs.length else -1
theorem differ_lit (xs ys : List Int) (c1 c2 : Nat) (hx : xs.length ≤ 1000000) :
    LitOk Try.prog 50 [.sl 1 2 [] 1 0 xs.length (some c1), .sl 3 4 [] 1 0 ys.length (some c2)] [.gone, .gone, .ro (.arr xs.length 1 (i64S xs)), .gone, .ro (.arr ys.length 1 (i64S ys))] (.int .i64 (differI xs ys)) [.gone] := by
  refine litOkM (fn := Try.f50) 5 30 0 rfl rfl rfl rfl rfl (by simp only [StableL, Stable, hp]; simp [HB.born]) rfl fun w0 M E hro => ?_
  repeat' (first
    | with_reducible (first | apply WF.seq | refine At.code ?_ | apply At.thenNormal | apply At.thenRet | apply At.thenExit | apply At.thenGoto | apply At.inNormal | apply At.inRet | apply At.inGoto | apply At.inHit | apply At.noGotoNormal | apply At.noGotoRet | apply At.noGotoExit | apply WF.skip | apply WF.ret | apply WF.exit | apply WF.goto | apply WF.label | apply WF.block | apply WF.scope)
    | ((with_reducible apply At.inMiss); · rfl)
    | ((with_reducible intro hif); first | (focus (cases hif; done)) | (simp only [Bool.not_eq_true', Bool.not_eq_false', decide_eq_true_eq, decide_eq_false_iff_not, Bool.and_eq_true, Bool.or_eq_true] at hif; try (exfalso; omega)) | (try (exfalso; omega)))
    | ((first | ((with_reducible apply WF.region cD_ok tab_ok); · rfl) | ((with_reducible apply WF.drawn fol cD_ok tab_ok); · rfl) | with_reducible apply WF.cond)
       · simp only [push_cast, ↓Int.cast_ofNat_Int, ↓ofV_m1, ↓ofV_min, Nat.reduceAdd, Nat.reduceEqDiff, Nat.reduceLT, Nat.reduceMul, Nat.reduceLeDiff, reduceCtorEq, reduceIte]; rfl
       try kernel_rfl
       try (focus ((first | exact True.intro | (simp only [and_self, implies_true, true_and, and_true, forall_const, false_implies, true_implies, Bool.not_eq_true', imp_self, shaped, shapedL, kndOf]; done) | (simp only [and_self, implies_true, true_and, and_true, forall_const, false_implies, true_implies, Bool.not_eq_true', imp_self, shaped, shapedL, kndOf]; (repeat' (first | assumption | exact True.intro | omega | apply And.intro))) | ((repeat' (first | assumption | exact True.intro | omega | apply And.intro)))); done)))
    | fail)
  · apply At.endsRet tab_ok (fn := Try.f50) (rs := [.tmp 4]) Anc.refl hro (Nat.le_of_ble_eq_true rfl) rfl
    · simp only [push_cast, ↓Int.cast_ofNat_Int, ↓ofV_m1, ↓ofV_min, Nat.reduceAdd, Nat.reduceEqDiff, Nat.reduceLT, Nat.reduceMul, Nat.reduceLeDiff, reduceCtorEq, reduceIte, resV, resV1]; rfl
    · (first | trivial | (simp only [and_self]; done))
    · (repeat' (first | exact trivial | exact .same _ | exact .dead _ | exact .gone rfl | exact .loose | assumption | exact .arr (by assumption) | apply And.intro))
    · rfl
    · (first | exact trivial | (repeat' (first | exact trivial | exact rfl | assumption | exact prS_stable _ | exact i64S_stable _ | exact sndsS_stable _ | exact insS_stable _ | exact sndS_stable _ | exact hst _ _ | exact hst1 _ _ | exact hst2 _ _ | apply Stable.ite | apply And.intro | intro _ | (simp only [Stable, StableL, i64S]; done))))
    · (repeat' (first | exact trivial | exact .inl rfl | exact .inr rfl | exact rfl | apply And.intro))
    · intro β; simp [resS, SV.den, differI, hif]
    · (first | exact trivial | (repeat' (first | exact trivial | exact rfl | assumption | exact prS_stable _ | exact i64S_stable _ | exact sndsS_stable _ | exact insS_stable _ | exact sndS_stable _ | exact hst _ _ | exact hst1 _ _ | exact hst2 _ _ | apply Stable.ite | apply And.intro | intro _ | (simp only [Stable, StableL, i64S]; done))))
  · refine WF.loopAt (fun j => j ≤ xs.length) (fun j => [(0, .sl 1 2 [] 1 0 xs.length (some c1)), (1, .sl 3 4 [] 1 0 ys.length (some c2)), (5, .nat .i64 (countNe xs ys j)), (13, .nat .i64 xs.length), (14, .nat .i64 j)]) (fun j => [.gone, .gone, .ro (.arr xs.length 1 (i64S xs)), .gone, .ro (.arr ys.length 1 (i64S ys))]) (fun j => xs.length - j) 0 (Nat.zero_le _) ?_ ?_ rfl ?_ ?_ rfl ?_
    · ((repeat' (first | exact trivial | apply And.intro)) <;> (first | rfl | (simp only [look, cond_true, cond_false]; done)))
    · (repeat' (first | exact trivial | exact .same _ | exact .dead _ | exact .gone rfl | exact .loose | assumption | exact .arr (by assumption) | apply And.intro))
    · (first | exact trivial | (repeat' (first | exact trivial | exact rfl | assumption | exact prS_stable _ | exact i64S_stable _ | exact sndsS_stable _ | exact insS_stable _ | exact sndS_stable _ | exact hst _ _ | exact hst1 _ _ | exact hst2 _ _ | apply Stable.ite | apply And.intro | intro _ | (simp only [Stable, StableL, i64S]; done))))
    · (first | exact trivial | (repeat' (first | exact trivial | exact rfl | assumption | exact prS_stable _ | exact i64S_stable _ | exact sndsS_stable _ | exact insS_stable _ | exact sndS_stable _ | exact hst _ _ | exact hst1 _ _ | exact hst2 _ _ | apply Stable.ite | apply And.intro | intro _ | (simp only [Stable, StableL, i64S]; done))))
    intro j hj
    have hc := countNe_le xs ys j
    repeat' (first
      | with_reducible (first | apply WF.seq | refine At.code ?_ | apply At.thenNormal | apply At.thenRet | apply At.thenExit | apply At.thenGoto | apply At.inNormal | apply At.inRet | apply At.inGoto | apply At.inHit | apply At.noGotoNormal | apply At.noGotoRet | apply At.noGotoExit | apply WF.skip | apply WF.ret | apply WF.exit | apply WF.goto | apply WF.label | apply WF.block | apply WF.scope)
      | ((with_reducible apply At.inMiss); · rfl)
      | ((with_reducible intro hif); first | (focus (cases hif; done)) | (simp only [Bool.not_eq_true', Bool.not_eq_false', decide_eq_true_eq, decide_eq_false_iff_not, Bool.and_eq_true, Bool.or_eq_true] at hif; try (exfalso; omega)) | (try (exfalso; omega)))
      | ((first | ((with_reducible apply WF.region cD_ok tab_ok); · rfl) | ((with_reducible apply WF.drawn fol cD_ok tab_ok); · rfl) | with_reducible apply WF.cond)
         · simp only [push_cast, ↓Int.cast_ofNat_Int, ↓ofV_m1, ↓ofV_min, Nat.reduceAdd, Nat.reduceEqDiff, Nat.reduceLT, Nat.reduceMul, Nat.reduceLeDiff, reduceCtorEq, reduceIte, i64S, inN]; rfl
         try kernel_rfl
         try (focus ((first | exact True.intro | (simp only [and_self, implies_true, true_and, and_true, forall_const, false_implies, true_implies, Bool.not_eq_true', imp_self, shaped, shapedL, kndOf, i64S, inN]; done) | (simp only [and_self, implies_true, true_and, and_true, forall_const, false_implies, true_implies, Bool.not_eq_true', imp_self, shaped, shapedL, kndOf, i64S, inN]; (repeat' (first | assumption | exact True.intro | omega | apply And.intro))) | ((repeat' (first | assumption | exact True.intro | omega | apply And.intro)))); done)))
      | fail)
    · refine At.next (j + 1) ?_ ?_ ?_ rfl ?_ ?_ rfl
      · omega
      · ((repeat' (first | exact trivial | apply And.intro)) <;> (first | rfl | (simp only [countNe, hif, if_false]; rfl)))
      · (repeat' (first | exact trivial | exact .same _ | exact .dead _ | exact .gone rfl | exact .loose | assumption | exact .arr (by assumption) | apply And.intro))
      · (first | exact trivial | (repeat' (first | exact trivial | exact rfl | assumption | exact prS_stable _ | exact i64S_stable _ | exact sndsS_stable _ | exact insS_stable _ | exact sndS_stable _ | exact hst _ _ | exact hst1 _ _ | exact hst2 _ _ | apply Stable.ite | apply And.intro | intro _ | (simp only [Stable, StableL, i64S]; done))))
      · (first | exact trivial | (repeat' (first | exact trivial | exact rfl | assumption | exact prS_stable _ | exact i64S_stable _ | exact sndsS_stable _ | exact insS_stable _ | exact sndS_stable _ | exact hst _ _ | exact hst1 _ _ | exact hst2 _ _ | apply Stable.ite | apply And.intro | intro _ | (simp only [Stable, StableL, i64S]; done))))
    · refine At.next (j + 1) ?_ ?_ ?_ rfl ?_ ?_ rfl
      · omega
      · ((repeat' (first | exact trivial | apply And.intro)) <;> (first | rfl | (simp only [countNe, hif, if_true]; rfl)))
      · (repeat' (first | exact trivial | exact .same _ | exact .dead _ | exact .gone rfl | exact .loose | assumption | exact .arr (by assumption) | apply And.intro))
      · (first | exact trivial | (repeat' (first | exact trivial | exact rfl | assumption | exact prS_stable _ | exact i64S_stable _ | exact sndsS_stable _ | exact insS_stable _ | exact sndS_stable _ | exact hst _ _ | exact hst1 _ _ | exact hst2 _ _ | apply Stable.ite | apply And.intro | intro _ | (simp only [Stable, StableL, i64S]; done))))
      · (first | exact trivial | (repeat' (first | exact trivial | exact rfl | assumption | exact prS_stable _ | exact i64S_stable _ | exact sndsS_stable _ | exact insS_stable _ | exact sndS_stable _ | exact hst _ _ | exact hst1 _ _ | exact hst2 _ _ | apply Stable.ite | apply And.intro | intro _ | (simp only [Stable, StableL, i64S]; done))))
    · have hjn : j = xs.length := by omega
      subst hjn
      apply At.endsRet tab_ok (fn := Try.f50) (rs := [.tmp 4]) Anc.refl hro (Nat.le_of_ble_eq_true rfl) rfl
      · simp only [push_cast, ↓Int.cast_ofNat_Int, ↓ofV_m1, ↓ofV_min, Nat.reduceAdd, Nat.reduceEqDiff, Nat.reduceLT, Nat.reduceMul, Nat.reduceLeDiff, reduceCtorEq, reduceIte, resV, resV1]; rfl
      · (first | trivial | (simp only [and_self]; done))
      · (repeat' (first | exact trivial | exact .same _ | exact .dead _ | exact .gone rfl | exact .loose | assumption | exact .arr (by assumption) | apply And.intro))
      · rfl
      · (first | exact trivial | (repeat' (first | exact trivial | exact rfl | assumption | exact prS_stable _ | exact i64S_stable _ | exact sndsS_stable _ | exact insS_stable _ | exact sndS_stable _ | exact hst _ _ | exact hst1 _ _ | exact hst2 _ _ | apply Stable.ite | apply And.intro | intro _ | (simp only [Stable, StableL, i64S]; done))))
      · (repeat' (first | exact trivial | exact .inl rfl | exact .inr rfl | exact rfl | apply And.intro))
      · intro β; simp [resS, SV.den, differI, *]
      · (first | exact trivial | (repeat' (first | exact trivial | exact rfl | assumption | exact prS_stable _ | exact i64S_stable _ | exact sndsS_stable _ | exact insS_stable _ | exact sndS_stable _ | exact hst _ _ | exact hst1 _ _ | exact hst2 _ _ | apply Stable.ite | apply And.intro | intro _ | (simp only [Stable, StableL, i64S]; done))))
def sDiffer : Spec := fun args h m => match args with
  | [v1, v2] => match srcV h 1 (.tup []) v1, srcV h 1 (.tup []) v2 with
    | some (c1, n1, f1, r1), some (c2, n2, f2, r2) => some (c1 ∧ c2 ∧ (∀ q, q < n1 → isI .i64 (f1 q) = true) ∧ (∀ q, q < n2 → isI .i64 (f2 q) = true) ∧ ((ls iOf n1 f1).length ≤ 1000000), .int .i64 (differI (ls iOf n1 f1) (ls iOf n2 f2)), r1 ++ r2, [])
    | _, _ => none
  | _ => none
theorem sDiffer_ok : CallOk Try.prog 50 sDiffer := by
  refine ⟨named_spec (by kernel_rfl), fun args h m c v rd wr hs hm hc w0 M β h' w R hrd hwr hst => ?_⟩
  unfold sDiffer at hs
  split at hs
  · rename_i v1 v2
    split at hs
    · rename_i c1 n1 f1 r1 c2 n2 f2 r2 a1 a2
      simp only [Option.some.injEq, Prod.mk.injEq] at hs
      obtain ⟨rfl, rfl, rfl, rfl⟩ := hs
      obtain ⟨k1, k2, g1, g2, y1⟩ := hc
      obtain ⟨A1, p1, d1, e1, t1⟩ := reads_src R a1 k1 (fun i hi => hrd i (List.mem_append_left _ hi)) (by omega)
      obtain ⟨A2, p2, d2, e2, t2⟩ := reads_src R a2 k2 (fun i hi => hrd i (List.mem_append_right _ hi)) (by omega)
      refine callRo (views := [⟨1, (ls iOf n1 f1).length, i64S (ls iOf n1 f1), A1, p1⟩, ⟨1, (ls iOf n2 f2).length, i64S (ls iOf n2 f2), A2, p2⟩]) (differ_lit (ls iOf n1 f1) (ls iOf n2 f2) p1 p2 y1) ?_ R hm hwr ?_ ?_ ?_
      · intro x hx
        simp only [List.mem_cons, List.not_mem_nil, or_false] at hx
        rcases hx with rfl | rfl
        · exact viewI64 t1 e1 g1
        · exact viewI64 t2 e2 g2
      · intro β1 hv
        simp only [Vd, ls_length, and_true] at hv
        obtain ⟨z1, z2⟩ := hv
        simp only [denL, aggDen, intDen, natDen, boolDen, ls_length, z1, z2, d1, d2]
      · (first | exact trivial | (repeat' (first | exact trivial | exact rfl | assumption | exact prS_stable _ | exact i64S_stable _ | exact sndsS_stable _ | exact insS_stable _ | exact sndS_stable _ | exact hst _ _ | exact hst1 _ _ | exact hst2 _ _ | apply Stable.ite | apply And.intro | intro _ | (simp only [Stable, StableL, i64S]; done))))
      · (first | exact trivial | (repeat' (first | exact trivial | exact rfl | assumption | exact prS_stable _ | exact i64S_stable _ | exact sndsS_stable _ | exact insS_stable _ | exact sndS_stable _ | exact hst _ _ | exact hst1 _ _ | exact hst2 _ _ | apply Stable.ite | apply And.intro | intro _ | (simp only [Stable, StableL, i64S]; done))))
    · cases hs
  · cases hs
end Go.Proofs.Ytmljmabbopkpiaa.Vm
end

section
/- InstrOne: what one instruction changes (plain). -/
namespace Go.Proofs.Ytmljmabbopkpiaa.Vm
open Go.RowKit
set_option linter.unusedVariables false
set_option linter.unusedSimpArgs false

def regsL (r : Nat → Int) : List Int := (List.range 8).map r
theorem regsL_get (r : Nat → Int) {j : Nat} (h : j < 8) : (regsL r).getD j 0 = r j := by simp [regsL, h]
theorem regsL_len (r : Nat → Int) : (regsL r).length = 8 := by simp [regsL]
theorem countNe_same {xs ys : List Int} {n : Nat} (h : ∀ j, j < n → xs.getD j 0 = ys.getD j 0) : countNe xs ys n = 0 := by
  induction n with
  | zero => rfl
  | succ n ih =>
    simp only [countNe]
    rw [ih fun j hj => h j (by omega), if_pos (h n (by omega))]
theorem countNe_one {xs ys : List Int} {n k : Nat} (h : ∀ j, j < n → j ≠ k → xs.getD j 0 = ys.getD j 0) : countNe xs ys n ≤ 1 ∧ (countNe xs ys n ≠ 0 → xs.getD k 0 ≠ ys.getD k 0) := by
  induction n with
  | zero => exact ⟨by simp [countNe], fun h => absurd rfl h⟩
  | succ n ih =>
    simp only [countNe]
    by_cases hk : n = k
    · subst hk
      rw [countNe_same fun j hj => h j (by omega) (by omega)]
      by_cases he : xs.getD n 0 = ys.getD n 0
      · rw [if_pos he]; exact ⟨by omega, fun h => absurd rfl h⟩
      · rw [if_neg he]; exact ⟨by omega, fun _ => he⟩
    · rw [if_pos (h n (by omega) hk)]
      exact ih fun j hj hne => h j (by omega) hne
theorem differI_same {xs : List Int} : differI xs xs = 0 := by
  unfold differI
  rw [if_pos rfl, countNe_same fun _ _ => rfl]
  rfl
theorem differI_one {xs ys : List Int} (k : Nat) (hl : xs.length = ys.length) (h : ∀ j, j < xs.length → j ≠ k → xs.getD j 0 = ys.getD j 0) : 0 ≤ differI xs ys ∧ differI xs ys ≤ 1 ∧ (differI xs ys ≠ 0 → xs.getD k 0 ≠ ys.getD k 0) := by
  unfold differI
  rw [if_pos hl]
  obtain ⟨h1, h2⟩ := countNe_one h
  exact ⟨by omega, by omega, fun h => h2 (by omega)⟩
theorem sameB_refl (s : Sta) : sameB s s = true := by simp [sameB, regsB]

/-- what one instruction changes -/
structure OneF (S T : Sta) (x : Ins) : Prop where
  reg : 0 ≤ differI (regsL S.regs) (regsL T.regs)
  cellLen : T.cells.length = S.cells.length
  cell : 0 ≤ differI S.cells T.cells
  sendLen : S.sends.length ≤ T.sends.length ∧ T.sends.length ≤ S.sends.length + 1
  sends : T.sends.take S.sends.length = S.sends
  draw : S.draws ≤ T.draws ∧ T.draws ≤ S.draws + 1
  ended : T.ended = decide (x.op = 1)
  at_ : x.op = 1 → T.at_ = S.at_
  next : x.op ≠ 1 → T.at_ ∈ edgesL x S.at_
  ops : ((x.op = 1 ∨ x.op = 9 ∨ x.op = 10 ∨ x.op = 11) ∧ differI (regsL S.regs) (regsL T.regs) = 0 ∧ differI S.cells T.cells = 0 ∧ T.sends.length = S.sends.length ∧ T.draws = S.draws)
    ∨ (x.op = 6 ∧ differI (regsL S.regs) (regsL T.regs) = 0 ∧ differI S.cells T.cells ≤ 1 ∧ T.sends.length = S.sends.length ∧ T.draws = S.draws)
    ∨ (x.op = 8 ∧ differI (regsL S.regs) (regsL T.regs) = 0 ∧ differI S.cells T.cells = 0 ∧ T.sends.length = S.sends.length + 1 ∧ T.draws = S.draws)
    ∨ (x.op = 7 ∧ differI (regsL S.regs) (regsL T.regs) ≤ 1 ∧ differI S.cells T.cells = 0 ∧ T.sends.length = S.sends.length ∧ T.draws = S.draws + 1)
    ∨ ((x.op ≠ 1 ∧ x.op ≠ 6 ∧ x.op ≠ 7 ∧ x.op ≠ 8 ∧ x.op ≠ 9 ∧ x.op ≠ 10 ∧ x.op ≠ 11) ∧ differI (regsL S.regs) (regsL T.regs) ≤ 1 ∧ differI S.cells T.cells = 0 ∧ T.sends.length = S.sends.length ∧ T.draws = S.draws
      ∧ (differI (regsL S.regs) (regsL T.regs) ≠ 0 → S.regs x.a.toNat ≠ T.regs x.a.toNat))
theorem next_goes {x : Ins} {i : Int} (h1 : oneE x = 0) (h2 : x.op ≠ 1) (h3 : x.op ≠ 2) (h4 : x.op ≠ 9) : i + 1 ∈ edgesL x i := by
  have : goesB x = true := by simp [goesB, h1, h2, h3, h4]
  simp [edgesL, this]
theorem next_targ {x : Ins} {i : Int} (h1 : oneE x = 0) (h2 : x.op = 9 ∨ x.op = 10 ∨ x.op = 11) : x.n ∈ edgesL x i := by
  have ht : targB x = true := by simp [targB, h1]; omega
  have hv : targV x = x.n := by simp [targV, ht]
  unfold edgesL
  rw [hv]
  by_cases hle : x.n ≤ i
  · simp [ht, hle]
  · by_cases hg : i + 1 < x.n ∨ goesB x = false
    · simp [ht, hg, show i < x.n by omega]
    · have hn : x.n = i + 1 := by omega
      have hgo : goesB x = true := by simpa using fun h => hg (.inr h)
      simp [hgo, hn]
theorem put_regs (S : Sta) (k : Nat) (hk : k < 8) (y : Int) : 0 ≤ differI (regsL S.regs) (regsL (S.put k y).regs) ∧ differI (regsL S.regs) (regsL (S.put k y).regs) ≤ 1 ∧ (differI (regsL S.regs) (regsL (S.put k y).regs) ≠ 0 → S.regs k ≠ (S.put k y).regs k) := by
  obtain ⟨h1, h2, h3⟩ := differI_one (xs := regsL S.regs) (ys := regsL (S.put k y).regs) k (by rw [regsL_len, regsL_len]) (fun j hj hne => by
    rw [regsL_len] at hj
    rw [regsL_get _ hj, regsL_get _ hj]
    simp [St.put, hne])
  rw [regsL_get _ hk, regsL_get _ hk] at h3
  exact ⟨h1, h2, h3⟩
theorem one_a {x : Ins} (h : oneE x = 0) : x.a < 8 := by
  unfold oneE at h
  split at h
  · cases h
  · unfold oneK at h
    split at h
    · rename_i hf
      unfold fitsC at hf
      split at hf <;> first | (exact hf.elim) | omega
    · cases h
theorem one_f {S : Sta} {V : Envi} {x : Ins} (hx : x.ok) (h1 : oneE x = 0) (he : S.ended = false) (hE : doE S V x = 0) : OneF S (doS S V x) x := by
  have h2 : x.op ≠ 2 := fun h => by simp [doE, h] at hE
  have ha := one_a h1
  unfold doS
  rw [if_neg (by simp [hE])]
  by_cases c1 : x.op = 1
  · rw [if_pos c1]
    exact ⟨by simp [differI_same], rfl, by simp [differI_same], ⟨Nat.le_refl _, by simp⟩, by simp, ⟨Int.le_refl _, by simp; omega⟩, by simp [c1], fun _ => rfl, fun h => absurd c1 h, .inl ⟨.inl c1, differI_same, differI_same, rfl, rfl⟩⟩
  rw [if_neg c1]
  have putF : ∀ (c6 : x.op ≠ 6) (c7 : x.op ≠ 7) (c8 : x.op ≠ 8) (c9 : x.op ≠ 9) (c10 : x.op ≠ 10) (c11 : x.op ≠ 11) (y : Int), OneF S (S.put x.a.toNat y) x := fun c6 c7 c8 c9 c10 c11 y => by
    obtain ⟨g1, g2, g3⟩ := put_regs S x.a.toNat (by omega) y
    exact ⟨g1, rfl, by simp [St.put, differI_same], ⟨Nat.le_refl _, by simp [St.put]⟩, by simp [St.put], ⟨Int.le_refl _, by simp [St.put]; omega⟩, by simp [St.put, he, c1], fun h => absurd h c1, fun _ => next_goes h1 c1 h2 c9, .inr (.inr (.inr (.inr ⟨⟨c1, c6, c7, c8, c9, c10, c11⟩, g2, differI_same, rfl, rfl, g3⟩)))⟩
  by_cases c3 : x.op = 3
  · rw [if_pos c3]; exact putF (by omega) (by omega) (by omega) (by omega) (by omega) (by omega) _
  rw [if_neg c3]
  by_cases c4 : x.op = 4
  · rw [if_pos c4]; exact putF (by omega) (by omega) (by omega) (by omega) (by omega) (by omega) _
  rw [if_neg c4]
  by_cases c5 : x.op = 5
  · rw [if_pos c5]; exact putF (by omega) (by omega) (by omega) (by omega) (by omega) (by omega) _
  rw [if_neg c5]
  by_cases c6 : x.op = 6
  · rw [if_pos c6]
    obtain ⟨g1, g2, _⟩ := differI_one (xs := S.cells) (ys := S.cells.set (S.regs x.b.toNat).toNat (S.regs x.a.toNat)) (S.regs x.b.toNat).toNat (by simp) (fun j hj hne => by
      rw [List.getD_eq_getElem?_getD, List.getD_eq_getElem?_getD, List.getElem?_set_ne (fun e => hne e.symm)])
    exact ⟨by simp [differI_same], by simp, g1, ⟨Nat.le_refl _, by simp⟩, by simp, ⟨Int.le_refl _, by simp; omega⟩, by simp [he, c1], fun h => absurd h c1, fun _ => next_goes h1 c1 h2 (by omega), .inr (.inl ⟨c6, differI_same, g2, rfl, rfl⟩)⟩
  rw [if_neg c6]
  by_cases c7 : x.op = 7
  · rw [if_pos c7]
    obtain ⟨g1, g2, g3⟩ := put_regs S x.a.toNat (by omega) (drawI V.seed V.process S.draws (S.regs x.b.toNat))
    exact ⟨g1, rfl, by simp [St.put, differI_same], ⟨Nat.le_refl _, by simp [St.put]⟩, by simp [St.put], ⟨by simp; omega, by simp⟩, by simp [St.put, he, c1], fun h => absurd h c1, fun _ => next_goes h1 c1 h2 (by omega), .inr (.inr (.inr (.inl ⟨c7, g2, differI_same, rfl, rfl⟩)))⟩
  rw [if_neg c7]
  by_cases c8 : x.op = 8
  · rw [if_pos c8]
    exact ⟨by simp [differI_same], rfl, by simp [differI_same], ⟨by simp, by simp⟩, by simp, ⟨Int.le_refl _, by simp; omega⟩, by simp [he, c1], fun h => absurd h c1, fun _ => next_goes h1 c1 h2 (by omega), .inr (.inr (.inl ⟨c8, differI_same, differI_same, by simp, rfl⟩))⟩
  rw [if_neg c8]
  by_cases c9 : x.op = 9
  · rw [if_pos c9]
    exact ⟨by simp [differI_same], rfl, by simp [differI_same], ⟨Nat.le_refl _, by simp⟩, by simp, ⟨Int.le_refl _, by simp; omega⟩, by simp [he, c1], fun h => absurd h c1, fun _ => next_targ h1 (by omega), .inl ⟨by omega, differI_same, differI_same, rfl, rfl⟩⟩
  rw [if_neg c9]
  by_cases c10 : x.op = 10
  · rw [if_pos c10]
    exact ⟨by simp [differI_same], rfl, by simp [differI_same], ⟨Nat.le_refl _, by simp⟩, by simp, ⟨Int.le_refl _, by simp; omega⟩, by simp [he, c1], fun h => absurd h c1, fun _ => by
      dsimp only
      split
      · exact next_targ h1 (by omega)
      · exact next_goes h1 c1 h2 c9, .inl ⟨by omega, differI_same, differI_same, rfl, rfl⟩⟩
  rw [if_neg c10]
  by_cases c11 : x.op = 11
  · rw [if_pos c11]
    exact ⟨by simp [differI_same], rfl, by simp [differI_same], ⟨Nat.le_refl _, by simp⟩, by simp, ⟨Int.le_refl _, by simp; omega⟩, by simp [he, c1], fun h => absurd h c1, fun _ => by
      dsimp only
      split
      · exact next_targ h1 (by omega)
      · exact next_goes h1 c1 h2 c9, .inl ⟨by omega, differI_same, differI_same, rfl, rfl⟩⟩
  rw [if_neg c11]
  exact putF c6 c7 c8 c9 c10 c11 _
/-! ### the program that holds this one instruction alone -/
theorem rep_right {n k : Nat} {x : Ins} (hn : 1 ≤ n ∧ n ≤ 256) (hk : k < n) (hb : badAt n x = 0) (hl : k + 1 = n → goesB x = false) : (checkI ((List.replicate n (⟨2, 0, 0, 0, 0⟩ : Ins)).set k x)).2 = 0 := by
  unfold checkI
  rw [List.length_set, List.length_replicate, if_neg (by omega), if_neg (by omega)]
  have hK := checkK_none (p := (List.replicate n (⟨2, 0, 0, 0, 0⟩ : Ins)).set k x) (fun j hj y hy => by
    rw [List.length_set, List.length_replicate]
    rcases List.mem_or_eq_of_mem_set (List.mem_of_getElem? hy) with h | h
    · rw [List.eq_of_mem_replicate h]
      unfold badAt
      rw [if_neg (by decide), if_neg (fun h => absurd h.1 (by decide))]
    · rw [h]; exact hb)
  rw [hK]
  have hg : goesB (((List.replicate n (⟨2, 0, 0, 0, 0⟩ : Ins)).set k x).getD (((List.replicate n (⟨2, 0, 0, 0, 0⟩ : Ins)).set k x).length - 1) ⟨0, 0, 0, 0, 0⟩) = false := by
    rw [List.length_set, List.length_replicate, List.getD_eq_getElem?_getD]
    by_cases h : k = n - 1
    · rw [← h, List.getElem?_set_self (by simpa using hk)]
      exact hl (by omega)
    · rw [List.getElem?_set_ne h, List.getElem?_replicate, if_pos (by omega)]
      decide
  rw [if_neg (by rw [hg]; decide)]
theorem right_last {p : List Ins} (h : (checkI p).2 = 0) : goesB (p.getD (p.length - 1) ⟨0, 0, 0, 0, 0⟩) = false ∧ ∀ k, k < p.length → badAt p.length (p.getD k ⟨0, 0, 0, 0, 0⟩) = 0 := by
  unfold checkI at h
  by_cases h0 : p.length = 0
  · rw [if_pos h0] at h; cases h
  · by_cases h1 : 256 < p.length
    · rw [if_neg h0, if_pos h1] at h; cases h
    · rw [if_neg h0, if_neg h1] at h
      unfold checkK at h
      cases hf : p.findIdx? (fun i => badAt p.length i != 0) with
      | some k =>
        rw [hf] at h
        obtain ⟨hk, hb, _⟩ := List.findIdx?_eq_some_iff_getElem.1 hf
        exfalso
        have hg : p.getD k ⟨0, 0, 0, 0, 0⟩ = p[k] := by simp [List.getD, hk]
        dsimp only at h
        rw [hg] at h
        simp [h] at hb
      | none =>
        rw [hf] at h
        rw [List.findIdx?_eq_none_iff] at hf
        dsimp only at h
        refine ⟨?_, fun k hk => ?_⟩
        · by_cases hg : goesB (p.getD (p.length - 1) ⟨0, 0, 0, 0, 0⟩) = true
          · rw [if_pos hg] at h; cases h
          · simpa using hg
        · have := hf (p.getD k ⟨0, 0, 0, 0, 0⟩) (by
            rw [List.getD_eq_getElem?_getD, List.getElem?_eq_getElem hk]; exact List.getElem_mem hk)
          simpa using this
/-- alone it answers the same -/
theorem alone {P : List Ins} {V : Envi} {S : Sta} (hP : (checkI P).2 = 0) (hV : V.rightB = true) (h0 : 0 ≤ S.at_) (h1 : S.at_.toNat < P.length) (hR : rightB S.at_ S.draws P.length S.cells.length = true) (hn : P.length ≤ 256) :
    topE ((List.replicate P.length (⟨2, 0, 0, 0, 0⟩ : Ins)).set S.at_.toNat (P.getD S.at_.toNat ⟨0, 0, 0, 0, 0⟩)) V S = topE P V S ∧ topS ((List.replicate P.length (⟨2, 0, 0, 0, 0⟩ : Ins)).set S.at_.toNat (P.getD S.at_.toNat ⟨0, 0, 0, 0, 0⟩)) V S = topS P V S := by
  obtain ⟨hl, hb⟩ := right_last hP
  have hQ : (checkI ((List.replicate P.length (⟨2, 0, 0, 0, 0⟩ : Ins)).set S.at_.toNat (P.getD S.at_.toNat ⟨0, 0, 0, 0, 0⟩))).2 = 0 := rep_right (by omega) h1 (hb _ h1) (fun h => by rw [show S.at_.toNat = P.length - 1 by omega]; exact hl)
  have e1 : openE P V S = 0 := openE_zero hP hV hR
  have e2 : openE ((List.replicate P.length (⟨2, 0, 0, 0, 0⟩ : Ins)).set S.at_.toNat (P.getD S.at_.toNat ⟨0, 0, 0, 0, 0⟩)) V S = 0 := openE_zero hQ hV (by rw [List.length_set, List.length_replicate]; exact hR)
  have e3 : insAt ((List.replicate P.length (⟨2, 0, 0, 0, 0⟩ : Ins)).set S.at_.toNat (P.getD S.at_.toNat ⟨0, 0, 0, 0, 0⟩)) S.at_ = insAt P S.at_ := by
    unfold insAt
    rw [List.getD_eq_getElem?_getD, List.getElem?_set_self (by simpa using h1)]
    rfl
  have e4 : topE ((List.replicate P.length (⟨2, 0, 0, 0, 0⟩ : Ins)).set S.at_.toNat (P.getD S.at_.toNat ⟨0, 0, 0, 0, 0⟩)) V S = topE P V S := by
    unfold topE stepE; rw [e1, e2, e3]
  exact ⟨e4, by unfold topS; rw [e4, e3]⟩
theorem top_zero {P : List Ins} {V : Envi} {S : Sta} (h : topE P V S ≠ 0) : topS P V S = zeroSt := by unfold topS; rw [if_pos h]
/-- what it changes, where it answers no error -/
theorem one_top_f {P : List Ins} {V : Envi} {S : Sta} (hP : (checkI P).2 = 0) (hok : ∀ i ∈ P, i.ok) (he : S.ended = false) (h1 : S.at_.toNat < P.length) (hE : topE P V S = 0) (x : Ins) (hx : P.getD S.at_.toNat ⟨0, 0, 0, 0, 0⟩ = x) : OneF S (topS P V S) x := by
  have hmem : x ∈ P := by rw [← hx, List.getD_eq_getElem?_getD, List.getElem?_eq_getElem h1]; exact List.getElem_mem h1
  have hb := (right_last hP).2 _ h1
  rw [hx] at hb
  have hd : doE S V x = 0 := by
    unfold topE at hE
    by_cases ho : openE P V S = 0
    · rw [if_neg (by simp [ho])] at hE
      unfold stepE insAt at hE
      rwa [if_neg (by simp [he]), hx] at hE
    · rw [if_pos ho] at hE; exact absurd hE ho
  have : topS P V S = doS S V x := by
    unfold topS insAt
    rw [if_neg (by simp [hE]), hx]
  rw [this]
  exact one_f (hok x hmem) (badAt_zero hb) he hd
theorem last_halt {P : List Ins} {V : Envi} {S : Sta} (hP : (checkI P).2 = 0) (hV : V.rightB = true) (hR : rightB S.at_ S.draws P.length S.cells.length = true) (he : S.ended = false) (hx : P.getD S.at_.toNat ⟨0, 0, 0, 0, 0⟩ = haltI) : topE P V S = 0 ∧ (topS P V S).ended = true := by
  have e1 : openE P V S = 0 := openE_zero hP hV hR
  have e2 : topE P V S = 0 := by
    unfold topE stepE insAt
    rw [if_neg (by simp [e1]), if_neg (by simp [he]), hx]
    rfl
  refine ⟨e2, ?_⟩
  unfold topS insAt
  rw [if_neg (by simp [e2]), hx]
  rfl
theorem made14_last (xs : List Ins) : (made14 xs).getD ((made14 xs).length - 1) ⟨0, 0, 0, 0, 0⟩ = haltI := by
  rw [List.getD_eq_getElem?_getD, made14_len]
  simp [made14]
end Go.Proofs.Ytmljmabbopkpiaa.Vm
end

section
/- Same, for slices that may be nil. -/
namespace Go.Proofs.Ytmljmabbopkpiaa.Vm
open Go.RowKit
set_option linter.unusedVariables false
set_option linter.unusedSimpArgs false
set_option maxRecDepth 100000
theorem srcV_sl {h : HM} {k : Nat} {z v : SV} {x : Prop × Nat × (Nat → SV) × List Nat} (ha : srcV h k z v = some x) : isSl v = true := by
  unfold srcV at ha
  split at ha
  · rfl
  all_goals (first | rfl | (cases ha; done))
def sSame1 : Spec := fun args h _ => match args with
  | [.agg [s0, .bool s1, .arr 8 1 rg, cv, s4, xv], .agg [t0, .bool t1, .arr 8 1 rg', cv', t4, xv']] => match srcV h 1 (.tup []) cv, srcV h 3 (.tup []) xv, srcV h 1 (.tup []) cv', srcV h 3 (.tup []) xv' with
    | some (c1, nc, cf, r1), some (c2, ns, sf, r2), some (c3, nc', cf', r3), some (c4, ns', sf', r4) => bif isI .i64 s0 && isI .i64 s4 && isI .i64 t0 && isI .i64 t4 then
        some ((c1 ∧ c2 ∧ c3 ∧ c4) ∧ ((∀ q, q < 8 → isI .i64 (rg q) = true) ∧ (∀ q, q < 8 → isI .i64 (rg' q) = true)) ∧ ((∀ q, q < nc → isI .i64 (cf q) = true) ∧ (∀ q, q < nc' → isI .i64 (cf' q) = true)) ∧ ((∀ q, q < ns → isSnd (sf q) = true) ∧ (∀ q, q < ns' → isSnd (sf' q) = true)) ∧ nc ≤ 1000000 ∧ ns ≤ 1000000,
          .bool (sameB ⟨iOf s0, s1, fun q => iOf (rg q), ls iOf nc cf, iOf s4, ls sndOf ns sf⟩ ⟨iOf t0, t1, fun q => iOf (rg' q), ls iOf nc' cf', iOf t4, ls sndOf ns' sf'⟩), r1 ++ r2 ++ r3 ++ r4, []) else none
    | _, _, _, _ => none
  | _ => none
theorem same1_ok : CallOk Try.prog 30 sSame1 := by
  refine ⟨named_spec (by kernel_rfl), fun args h m c v rd wr hs hm hc w0 M β h' w R hrd hwr hst => ?_⟩
  unfold sSame1 at hs
  split at hs
  · rename_i s0 s1 rg cv s4 xv t0 t1 rg' cv' t4 xv'
    split at hs
    · rename_i c1 nc cf r1 c2 ns sf r2 c3 nc' cf' r3 c4 ns' sf' r4 a1 a2 a3 a4
      obtain ⟨hb, hs⟩ := bif_some hs
      simp only [Option.some.injEq, Prod.mk.injEq] at hs
      obtain ⟨rfl, rfl, rfl, rfl⟩ := hs
      simp only [Bool.and_eq_true] at hb
      obtain ⟨⟨⟨b0, b1⟩, b2⟩, b3⟩ := hb
      obtain ⟨⟨k1, k2, k3, k4⟩, ⟨g1, g2⟩, ⟨g3, g4⟩, ⟨g5, g6⟩, hnc, hns⟩ := hc
      obtain ⟨A, cA, dA, _, rA⟩ := reads_src R a1 k1 (fun i hi => hrd i (List.mem_append_left _ (List.mem_append_left _ (List.mem_append_left _ hi)))) (by omega)
      obtain ⟨B, cB, dB, _, rB⟩ := reads_src R a2 k2 (fun i hi => hrd i (List.mem_append_left _ (List.mem_append_left _ (List.mem_append_right _ hi)))) (by omega)
      obtain ⟨C, cC, dC, _, rC⟩ := reads_src R a3 k3 (fun i hi => hrd i (List.mem_append_left _ (List.mem_append_right _ hi))) (by omega)
      obtain ⟨D, cD, dD, _, rD⟩ := reads_src R a4 k4 (fun i hi => hrd i (List.mem_append_right _ hi)) (by omega)
      rw [elems_i64 g3] at rA
      rw [elems_snd g5] at rB
      rw [elems_i64 g4] at rC
      rw [elems_snd g6] at rD
      have d1 := den_state (β := β) (e := s1) b0 g1 b1 (srcV_sl a1) (srcV_sl a2) (ls iOf nc cf) (ls sndOf ns sf)
      have d2 := den_state (β := β) (e := t1) b2 g2 b3 (srcV_sl a3) (srcV_sl a4) (ls iOf nc' cf') (ls sndOf ns' sf')
      simp only [denL, d1, d2, dA, dB, dC, dD]
      exact (same_c ⟨iOf s0, s1, fun q => iOf (rg q), ls iOf nc cf, iOf s4, ls sndOf ns sf⟩ ⟨iOf t0, t1, fun q => iOf (rg' q), ls iOf nc' cf', iOf t4, ls sndOf ns' sf'⟩ A B C D nc ns nc' ns' cA cB cC cD w rA rB rC rD hnc hns).mono fun e w' he => post_read R trivial rfl he.1 he.2
    · cases hs
  · cases hs
end Go.Proofs.Ytmljmabbopkpiaa.Vm
end

section
/- slices.Repeat of one element. (printed by gen_vs2.py) -/
namespace Go.Proofs.Ytmljmabbopkpiaa.Vm
open Go.RowKit
attribute [local push_cast] runR opG gtmp gval gus opX tmpsOf tm tmO tmP restr look look2 tab tys zs ets eqB eqBL allB numOf ieq Int.cast_ofNat_Int Int.ofNat_zero beq_true beq_false frameOf ev evL ofV opV loadV noW pushF wrsL setH allBorn allGone HB.born HB.isGone HB.val SV.plain dstOk hp nav fitsT SV.size sizeL SV.isAgg TK.size TK.agg bin binE binN binI arN arI cmpN cmpI keq kn narrow callV storeV setp fillV buildV buildSliceV makeV sliceV appendV copyV List.isEmpty_nil srcV evO asN ite_t ite_f ite_bool ite_int ite_nat maxV v_beq v_ble v_blt cond_true cond_false List.getElem?_cons_zero List.getElem?_cons_succ List.getD_cons_zero List.getD_cons_succ List.getD_nil List.length_cons List.length_nil List.take_succ_cons List.take_zero List.set_cons_zero List.set_cons_succ List.cons_append List.nil_append List.append_assoc List.replicate_succ List.replicate_zero Nat.zero_add Nat.add_zero decide_true decide_false Bool.true_and Bool.and_true Bool.false_and Bool.and_false Bool.true_or Bool.or_true Bool.false_or Bool.or_false beq_self_eq_true Bool.or_self Nat.lt_irrefl Nat.not_lt_zero Nat.le_refl Option.getD_some Option.getD_none BEq.rfl Bool.not_true Bool.not_false Bool.cond_true_left Bool.cond_false_right
set_option linter.unusedVariables false
set_option linter.unusedSimpArgs false
set_option maxRecDepth 100000
set_option maxHeartbeats 4000000
def cRep : FuncId → Option Spec := look2 [(92, sMul)]
theorem cRep_ok : ∀ f S, cRep f = some S → CallOk Try.prog f S := allOk_spec ⟨sMul_ok, trivial⟩
theorem list_one {α : Type} {l : List α} (h : l.length = 1) (d : α) : l = [l.getD 0 d] := by
  match l, h with
  | [a], _ => rfl
/-- what is repeated -/
structure RepI (c : Nat) (v : SV) (j : Nat) (F : Nat → SV) : Prop where
  le : j ≤ c
  one : c = 0 ∨ 1 ≤ j
  eq : ∀ q, q < j → F q = v
  st : ∀ (h : HM) (q : Nat), Stable h (F q)
theorem repI0 {c : Nat} {v : SV} {f : Nat → SV} (z : SV) (h0 : f 0 = v) (hf : ∀ (h : HM) (q : Nat), Stable h (f q)) (hz : ∀ h : HM, Stable h z) : RepI c v (min 1 c) (fun q => SV.ite (decide (q < min 1 c)) (f q) z) :=
  ⟨by omega, by omega, fun q hq => by
    have : q = 0 := by omega
    subst this
    rw [ite_eq]
    simp only [hq, decide_true, cond_true]
    exact h0, fun h q => Stable.ite (hf h q) (hz h)⟩
theorem RepI.step {c : Nat} {v : SV} {j : Nat} {F : Nat → SV} (h : RepI c v j F) (hj : j < c) : RepI c v (j + min j (c - j)) (fun q => SV.ite (decide (j ≤ q) && decide (q < j + min j (c - j))) (F (q - j)) (F q)) :=
  ⟨by have := h.le; omega, .inr (by rcases h.one with e | e <;> omega), fun q hq => by
    rw [ite_eq]
    by_cases h1 : j ≤ q
    · simp only [h1, hq, decide_true, Bool.and_true, cond_true]
      exact h.eq _ (by omega)
    · simp only [h1, decide_false, Bool.false_and, cond_false]
      exact h.eq _ (by omega), fun h' q => Stable.ite (h.st h' _) (h.st h' _)⟩
theorem repI_lit (xs : List Ins) (c : Nat) (p1 : Nat) (h1 : xs.length = 1) (hc : c ≤ 65535) : LitOk Try.prog 49 [.sl 1 2 [] 5 0 xs.length (some p1), .nat .i64 c] [.gone, .gone, .ro (.arr xs.length 5 (prS xs))] (.sl 3 3 [] 5 0 c none) [.gone, .gone, .gone, .own 28 (.arr c 5 (prS (List.replicate c (xs.getD 0 ⟨0, 0, 0, 0, 0⟩)))) false] := by
  obtain ⟨x, rfl⟩ : ∃ x, xs = [x] := ⟨_, list_one h1 ⟨0, 0, 0, 0, 0⟩⟩
  refine litOkM (fn := Try.f49) 3 48 0 rfl rfl rfl rfl rfl (by simp only [StableL, Stable, hp]; simp [HB.born]) rfl fun w0 M E hro => ?_
  repeat' (first
    | with_reducible (first | apply WF.seq | refine At.code ?_ | apply At.thenNormal | apply At.thenRet | apply At.thenExit | apply At.thenGoto | apply At.inNormal | apply At.inRet | apply At.inGoto | apply At.inHit | apply At.noGotoNormal | apply At.noGotoRet | apply At.noGotoExit | apply WF.skip | apply WF.ret | apply WF.exit | apply WF.goto | apply WF.label | apply WF.block | apply WF.scope)
    | ((with_reducible apply At.inMiss); · rfl)
    | ((with_reducible intro hif); first | (focus (cases hif; done)) | (simp only [Bool.not_eq_true', Bool.not_eq_false', decide_eq_true_eq, decide_eq_false_iff_not, Bool.and_eq_true, Bool.or_eq_true] at hif; try (exfalso; omega)) | (try (exfalso; omega)))
    | ((first | ((with_reducible apply WF.region cRep_ok tab_ok); · rfl) | ((with_reducible apply WF.drawn fol cRep_ok tab_ok); · rfl) | with_reducible apply WF.cond)
       · simp only [push_cast, ↓Int.cast_ofNat_Int, ↓ofV_m1, ↓ofV_min, Nat.reduceAdd, Nat.reduceEqDiff, Nat.reduceLT, Nat.reduceMul, Nat.reduceLeDiff, reduceCtorEq, reduceIte, cRep, sMul, inN, inR, Nat.one_mul, Nat.sub_zero, Nat.zero_le, Nat.lt_irrefl]; rfl
       try kernel_rfl
       try (focus ((first | exact True.intro | (simp only [and_self, implies_true, true_and, and_true, forall_const, false_implies, true_implies, Bool.not_eq_true', imp_self, shaped, shapedL, kndOf, cRep, sMul, inN, inR, Nat.one_mul, Nat.sub_zero, Nat.zero_le, Nat.lt_irrefl]; done) | (simp only [and_self, implies_true, true_and, and_true, forall_const, false_implies, true_implies, Bool.not_eq_true', imp_self, shaped, shapedL, kndOf, cRep, sMul, inN, inR, Nat.one_mul, Nat.sub_zero, Nat.zero_le, Nat.lt_irrefl]; (repeat' (first | assumption | exact True.intro | omega | apply And.intro))) | ((repeat' (first | assumption | exact True.intro | omega | apply And.intro)))); done)))
    | fail)
  refine WF.loopAt (fun (z : Nat × (Nat → SV)) => RepI c (insS x) z.1 z.2) (fun (z : Nat × (Nat → SV)) => [(0, .sl 1 2 [] 5 0 [x].length (some p1)), (7, .sl 3 3 [] 5 0 c none), (8, .nat .i64 z.1)]) (fun (z : Nat × (Nat → SV)) => [.gone, .gone, .ro (.arr [x].length 5 (prS [x])), .own 28 (.arr c 5 z.2) false]) (fun (z : Nat × (Nat → SV)) => c - z.1) (min 1 c, fun q => SV.ite (decide (q < min 1 c)) (prS [x] q) (.agg [.nat .u8 0, .nat .u8 0, .nat .u8 0, .nat .u8 0, .nat .i64 0])) (repI0 _ rfl (fun h q => by simp [prS, insS, Stable, StableL]) (fun h => by simp [Stable, StableL])) ?_ ?_ rfl ?_ ?_ rfl ?_
  · ((repeat' (first | exact trivial | apply And.intro)) <;> (first | rfl | (simp only [look, cond_true, cond_false]; done)))
  · (repeat' (first | exact trivial | exact .same _ | exact .dead _ | exact .gone rfl | exact .loose | assumption | exact .arr (by assumption) | apply And.intro))
  · (first | exact trivial | (repeat' (first | exact trivial | exact rfl | assumption | exact prS_stable _ | exact i64S_stable _ | exact sndsS_stable _ | exact insS_stable _ | exact sndS_stable _ | exact hst _ _ | exact hst1 _ _ | exact hst2 _ _ | apply Stable.ite | apply And.intro | intro _ | (simp only [Stable, StableL, i64S, prS, insS, sndsS, sndS]; done))))
  · (first | exact trivial | (repeat' (first | exact trivial | exact rfl | assumption | exact prS_stable _ | exact i64S_stable _ | exact sndsS_stable _ | exact insS_stable _ | exact sndS_stable _ | exact hst _ _ | exact hst1 _ _ | exact hst2 _ _ | apply Stable.ite | apply And.intro | intro _ | (simp only [Stable, StableL, i64S, prS, insS, sndsS, sndS]; done))))
  rintro ⟨j, F⟩ hI
  have hle := hI.le
  have hst := hI.st
  dsimp only at hle hst ⊢
  repeat' (first
    | with_reducible (first | apply WF.seq | refine At.code ?_ | apply At.thenNormal | apply At.thenRet | apply At.thenExit | apply At.thenGoto | apply At.inNormal | apply At.inRet | apply At.inGoto | apply At.inHit | apply At.noGotoNormal | apply At.noGotoRet | apply At.noGotoExit | apply WF.skip | apply WF.ret | apply WF.exit | apply WF.goto | apply WF.label | apply WF.block | apply WF.scope)
    | ((with_reducible apply At.inMiss); · rfl)
    | ((with_reducible intro hif); first | (focus (cases hif; done)) | (simp only [Bool.not_eq_true', Bool.not_eq_false', decide_eq_true_eq, decide_eq_false_iff_not, Bool.and_eq_true, Bool.or_eq_true] at hif; try (exfalso; omega)) | (try (exfalso; omega)))
    | ((first | ((with_reducible apply WF.region cRep_ok tab_ok); · rfl) | ((with_reducible apply WF.drawn fol cRep_ok tab_ok); · rfl) | with_reducible apply WF.cond)
       · simp only [push_cast, ↓Int.cast_ofNat_Int, ↓ofV_m1, ↓ofV_min, Nat.reduceAdd, Nat.reduceEqDiff, Nat.reduceLT, Nat.reduceMul, Nat.reduceLeDiff, reduceCtorEq, reduceIte, inN]; rfl
       try kernel_rfl
       try (focus ((first | exact True.intro | (simp only [and_self, implies_true, true_and, and_true, forall_const, false_implies, true_implies, Bool.not_eq_true', imp_self, shaped, shapedL, kndOf, inN]; done) | (simp only [and_self, implies_true, true_and, and_true, forall_const, false_implies, true_implies, Bool.not_eq_true', imp_self, shaped, shapedL, kndOf, inN]; (repeat' (first | assumption | exact True.intro | omega | apply And.intro))) | ((repeat' (first | assumption | exact True.intro | omega | apply And.intro)))); done)))
    | fail)
  · refine At.next (j + min j (c - j), fun q => SV.ite (decide (j ≤ q) && decide (q < j + min j (c - j))) (F (q - j)) (F q)) ?_ ?_ ?_ rfl ?_ ?_ rfl
    · exact ⟨hI.step (by omega), by have := hI.one; dsimp only; omega⟩
    · ((repeat' (first | exact trivial | apply And.intro)) <;> (first | rfl | (simp only [look, cond_true, cond_false]; done)))
    · (repeat' (first | exact trivial | exact .same _ | exact .dead _ | exact .gone rfl | exact .loose | assumption | exact .arr (by assumption) | apply And.intro))
    · (first | exact trivial | (repeat' (first | exact trivial | exact rfl | assumption | exact prS_stable _ | exact i64S_stable _ | exact sndsS_stable _ | exact insS_stable _ | exact sndS_stable _ | exact hst _ _ | exact hst1 _ _ | exact hst2 _ _ | apply Stable.ite | apply And.intro | intro _ | (simp only [Stable, StableL, i64S, prS, insS, sndsS, sndS]; done))))
    · (first | exact trivial | (repeat' (first | exact trivial | exact rfl | assumption | exact prS_stable _ | exact i64S_stable _ | exact sndsS_stable _ | exact insS_stable _ | exact sndS_stable _ | exact hst _ _ | exact hst1 _ _ | exact hst2 _ _ | apply Stable.ite | apply And.intro | intro _ | (simp only [Stable, StableL, i64S, prS, insS, sndsS, sndS]; done))))
  · have hjc : j = c := by omega
    subst hjc
    have hL : ∀ q, q < j → F q = prS (List.replicate j x) q := fun q hq => by have := hI.eq q hq; dsimp only at this; rw [this]; simp [prS, hq]
    apply At.endsRet tab_ok (fn := Try.f49) (rs := [.tmp 4]) Anc.refl hro (Nat.le_of_ble_eq_true rfl) rfl
    · simp only [push_cast, ↓Int.cast_ofNat_Int, ↓ofV_m1, ↓ofV_min, Nat.reduceAdd, Nat.reduceEqDiff, Nat.reduceLT, Nat.reduceMul, Nat.reduceLeDiff, reduceCtorEq, reduceIte, resV, resV1]; rfl
    · (first | trivial | (simp only [and_self]; done))
    · (repeat' (first | exact trivial | exact .same _ | exact .dead _ | exact .gone rfl | exact .loose | assumption | exact .arr (by assumption) | apply And.intro))
    · rfl
    · (first | exact trivial | (repeat' (first | exact trivial | exact rfl | assumption | exact prS_stable _ | exact i64S_stable _ | exact sndsS_stable _ | exact insS_stable _ | exact sndS_stable _ | exact hst _ _ | exact hst1 _ _ | exact hst2 _ _ | apply Stable.ite | apply And.intro | intro _ | (simp only [Stable, StableL, i64S, prS, insS, sndsS, sndS]; done))))
    · (repeat' (first | exact trivial | exact .inl rfl | exact .inr rfl | exact rfl | apply And.intro))
    · exact fun β => rfl
    · (first | exact trivial | (repeat' (first | exact trivial | exact rfl | assumption | exact prS_stable _ | exact i64S_stable _ | exact sndsS_stable _ | exact insS_stable _ | exact sndS_stable _ | exact hst _ _ | exact hst1 _ _ | exact hst2 _ _ | apply Stable.ite | apply And.intro | intro _ | (simp only [Stable, StableL, i64S, prS, insS, sndsS, sndS]; done))))
def sRepI : Spec := fun args h m => match args with
  | [v1, .nat q2 v2] => match srcV h 5 (.tup []) v1 with
    | some (c1, n1, f1, r1) => bif keq q2 .i64 then some (c1 ∧ (∀ q, q < n1 → isIns (f1 q) = true) ∧ (n1 = 1) ∧ (v2 ≤ 65535), .sl m m [] 5 0 v2 none, r1, [(m, .own 28 (.arr v2 5 (prS (List.replicate v2 ((ls insOf n1 f1).getD 0 ⟨0, 0, 0, 0, 0⟩)))) false)]) else none
    | _ => none
  | _ => none
theorem sRepI_ok : CallOk Try.prog 49 sRepI := by
  refine ⟨named_spec (by kernel_rfl), fun args h m c v rd wr hs hm hc w0 M β h' w R hrd hwr hst => ?_⟩
  unfold sRepI at hs
  split at hs
  · rename_i v1 q2 v2
    split at hs
    · rename_i c1 n1 f1 r1 a1
      obtain ⟨hb, hs⟩ := bif_some hs
      simp only [Option.some.injEq, Prod.mk.injEq] at hs
      obtain ⟨rfl, rfl, rfl, rfl⟩ := hs
      have b2 := hb
      have w2 := keq_eq b2
      subst w2
      obtain ⟨k1, g1, y1, y2⟩ := hc
      obtain ⟨A1, p1, d1, e1, t1⟩ := reads_src R a1 k1 (fun i hi => hrd i hi) (by omega)
      refine callRo (views := [⟨5, (ls insOf n1 f1).length, prS (ls insOf n1 f1), A1, p1⟩]) (repI_lit (ls insOf n1 f1) v2 p1 ((ls_length ..).trans y1) y2) ?_ R hm hwr ?_ ?_ ?_
      · intro x hx
        simp only [List.mem_cons, List.not_mem_nil, or_false] at hx
        subst hx
        · exact viewIns t1 e1 g1
      · intro β1 hv
        simp only [Vd, ls_length, and_true] at hv
        have z1 := hv
        simp only [denL, aggDen, intDen, natDen, boolDen, ls_length, z1, d1]
      · (first | exact trivial | (repeat' (first | exact trivial | exact rfl | assumption | exact prS_stable _ | exact i64S_stable _ | exact sndsS_stable _ | exact insS_stable _ | exact sndS_stable _ | exact hst _ _ | exact hst1 _ _ | exact hst2 _ _ | apply Stable.ite | apply And.intro | intro _ | (simp only [Stable, StableL, i64S, prS, insS, sndsS, sndS]; done))))
      · (first | exact trivial | (repeat' (first | exact trivial | exact rfl | assumption | exact prS_stable _ | exact i64S_stable _ | exact sndsS_stable _ | exact insS_stable _ | exact sndS_stable _ | exact hst _ _ | exact hst1 _ _ | exact hst2 _ _ | apply Stable.ite | apply And.intro | intro _ | (simp only [Stable, StableL, i64S, prS, insS, sndsS, sndS]; done))))
    · cases hs
  · cases hs
end Go.Proofs.Ytmljmabbopkpiaa.Vm
end

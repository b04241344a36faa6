import Derived.Test.YtmljmabbopkpiaaU1
import Derived.Test.YtmljmabbopkpiaaU9
import Derived.Test.YtmljmabbopkpiaaU15
import Derived.Test.YtmljmabbopkpiaaU16
set_option linter.unusedSimpArgs false
set_option linter.unusedVariables false
set_option maxRecDepth 100000
section
namespace Go.Proofs.Ytmljmabbopkpiaa.Vm
open Go.RowKit
def R64 (a : Int) : Prop := -9223372036854775808 ≤ a ∧ a ≤ 9223372036854775807
theorem wrapR (n : Int) : R64 (wrap64 n) := by
 unfold wrap64
 constructor <;> omega
theorem iwrapR (n : Int) : R64 (IntKind.i64.wrap n) := by
 rw [IntKind.wrap_i64]
 constructor <;> omega
theorem truR (b : Bool) : R64 (truthI b) := by cases b <;> (constructor <;> decide)
theorem zero_R : R64 0 := by constructor <;> decide
theorem tmodR {a : Int} (b : Int) (h : R64 a) : R64 (a.tmod b) := by
 have h1 : (a.tmod b).natAbs ≤ a.natAbs := by rw [Int.natAbs_tmod]; exact Nat.mod_le _ _
 have h2 : 0 ≤ a → 0 ≤ a.tmod b := fun h => Int.tmod_nonneg b h
 have h3 : a ≤ 0 → a.tmod b ≤ 0 := fun h => by
  have := Int.tmod_nonneg b (show 0 ≤ -a by omega)
  rw [Int.neg_tmod] at this
  omega
 obtain ⟨k1, k2⟩ := h
 constructor <;> omega
theorem shrR {a : Int} (n : Nat) (h : R64 a) : R64 (a / 2 ^ n) := by
 obtain ⟨k1, k2⟩ := h
 have hp : (0 : Int) < 2 ^ n := Int.pow_pos (by decide)
 obtain ⟨m, hm⟩ : ∃ m : Int, 2 ^ n = m := ⟨_, rfl⟩
 rw [hm] at hp ⊢
 refine ⟨Int.le_ediv_of_mul_le hp (by omega), ?_⟩
 have : a / m < 9223372036854775808 := Int.ediv_lt_of_lt_mul hp (by omega)
 omega
theorem applyV_R (op a b : Int) (ha : R64 a) (hb : R64 b) : R64 (applyV op a b) := by
 by_cases h0 : yn_ op b = 0
 ·have hop : op = 1 ∨ op = 2 ∨ op = 3 ∨ op = 4 ∨ op = 5 ∨ op = 6 ∨ op = 7 ∨ op = 8 ∨ op = 9 ∨ op = 10 ∨ op = 11 ∨ op = 12 ∨ op = 13 ∨ op = 14 ∨ op = 15 ∨ op = 16 ∨ op = 17 := by
   by_cases h : op < 1 ∨ 17 < op
   ·rw [yn_, if_pos h] at h0; exact absurd h0 (by decide)
   ·omega
  rw [applyV, if_pos h0]
  clear h0
  rcases hop with h | h | h | h | h | h | h | h | h | h | h | h | h | h | h | h | h <;> subst h
  ·rw [zn_, if_pos rfl]; exact wrapR _
  ·rw [zn_, if_neg (by decide), if_pos rfl]; exact wrapR _
  ·rw [zn_, if_neg (by decide), if_neg (by decide), if_pos rfl]; exact wrapR _
  ·rw [zn_, if_neg (by decide), if_neg (by decide), if_neg (by decide), if_pos rfl]; exact wrapR _
  ·rw [zn_, if_neg (by decide), if_neg (by decide), if_neg (by decide), if_neg (by decide), if_pos rfl]; exact tmodR b ha
  ·rw [zn_, if_neg (by decide), if_neg (by decide), if_neg (by decide), if_neg (by decide), if_neg (by decide), if_pos rfl]
   unfold modI
   split
   ·exact tmodR b ha
   ·split <;> exact wrapR _
  ·rw [zn_, if_neg (by decide), if_neg (by decide), if_neg (by decide), if_neg (by decide), if_neg (by decide), if_neg (by decide), if_pos rfl]; exact iwrapR _
  ·rw [zn_, if_neg (by decide), if_neg (by decide), if_neg (by decide), if_neg (by decide), if_neg (by decide), if_neg (by decide), if_neg (by decide), if_pos rfl]; exact iwrapR _
  ·rw [zn_, if_neg (by decide), if_neg (by decide), if_neg (by decide), if_neg (by decide), if_neg (by decide), if_neg (by decide), if_neg (by decide), if_neg (by decide), if_pos rfl]; exact iwrapR _
  ·rw [zn_, if_neg (by decide), if_neg (by decide), if_neg (by decide), if_neg (by decide), if_neg (by decide), if_neg (by decide), if_neg (by decide), if_neg (by decide), if_neg (by decide), if_pos rfl]; exact wrapR _
  ·rw [zn_, if_neg (by decide), if_neg (by decide), if_neg (by decide), if_neg (by decide), if_neg (by decide), if_neg (by decide), if_neg (by decide), if_neg (by decide), if_neg (by decide), if_neg (by decide), if_pos rfl]; exact wrapR _
  ·rw [zn_, if_neg (by decide), if_neg (by decide), if_neg (by decide), if_neg (by decide), if_neg (by decide), if_neg (by decide), if_neg (by decide), if_neg (by decide), if_neg (by decide), if_neg (by decide), if_neg (by decide), if_pos rfl]; exact shrR _ ha
  ·rw [zn_, if_neg (by decide), if_neg (by decide), if_neg (by decide), if_neg (by decide), if_neg (by decide), if_neg (by decide), if_neg (by decide), if_neg (by decide), if_neg (by decide), if_neg (by decide), if_neg (by decide), if_neg (by decide), if_pos rfl]; exact truR _
  ·rw [zn_, if_neg (by decide), if_neg (by decide), if_neg (by decide), if_neg (by decide), if_neg (by decide), if_neg (by decide), if_neg (by decide), if_neg (by decide), if_neg (by decide), if_neg (by decide), if_neg (by decide), if_neg (by decide), if_neg (by decide), if_pos rfl]; exact truR _
  ·rw [zn_, if_neg (by decide), if_neg (by decide), if_neg (by decide), if_neg (by decide), if_neg (by decide), if_neg (by decide), if_neg (by decide), if_neg (by decide), if_neg (by decide), if_neg (by decide), if_neg (by decide), if_neg (by decide), if_neg (by decide), if_neg (by decide), if_pos rfl]; exact truR _
  ·rw [zn_, if_neg (by decide), if_neg (by decide), if_neg (by decide), if_neg (by decide), if_neg (by decide), if_neg (by decide), if_neg (by decide), if_neg (by decide), if_neg (by decide), if_neg (by decide), if_neg (by decide), if_neg (by decide), if_neg (by decide), if_neg (by decide), if_neg (by decide), if_pos rfl]; split <;> assumption
  ·rw [zn_, if_neg (by decide), if_neg (by decide), if_neg (by decide), if_neg (by decide), if_neg (by decide), if_neg (by decide), if_neg (by decide), if_neg (by decide), if_neg (by decide), if_neg (by decide), if_neg (by decide), if_neg (by decide), if_neg (by decide), if_neg (by decide), if_neg (by decide), if_neg (by decide)]; split <;> assumption
 ·rw [applyV, if_neg h0]; exact zero_R
structure MS where
 regs : Nat → Int
 cells : List Int
 drawn : Int
def MS.put (s : MS) (a : Nat) (y : Int) : MS := { s with regs := fun j => if j = a then y else s.regs j }
def mdE (lp ll : Int) (s : MS) (i : Ins) : Bool :=
 if i.op = 1 ∨ i.op = 2 then false
 else if i.op = 5 ∨ i.op = 6 then decide (0 ≤ s.regs i.b.toNat ∧ s.regs i.b.toNat < s.cells.length)
 else if i.op = 7 then decide (1 ≤ s.regs i.b.toNat)
 else if i.op = 8 then decide (i.n < lp ∧ ll ≤ s.regs i.a.toNat)
 else if i.op < 32 then true
 else yn_ (i.op - 32) (s.regs i.c.toNat) == 0
def mdN (s : MS) (i : Ins) (k : Int) : Int :=
 if i.op = 9 then i.n
 else if i.op = 10 then (if s.regs i.a.toNat = 0 then i.n else k + 1)
 else if i.op = 11 then (if s.regs i.a.toNat < 0 then i.n else k + 1)
 else k + 1
def dvI (o : List Int) (k b : Int) : Int := IntKind.i64.wrap ((IntKind.u64.wrap (if o.length = 0 then 0 else o.getD (k.tmod o.length).toNat 0)).tmod (IntKind.u64.wrap b))
def mdS (o : List Int) (s : MS) (i : Ins) : MS :=
 if i.op = 3 then s.put i.a.toNat i.n
 else if i.op = 4 then s.put i.a.toNat (s.regs i.b.toNat)
 else if i.op = 5 then s.put i.a.toNat (s.cells.getD (s.regs i.b.toNat).toNat 0)
 else if i.op = 6 then { s with cells := s.cells.set (s.regs i.b.toNat).toNat (s.regs i.a.toNat) }
 else if i.op = 7 then { s.put i.a.toNat (dvI o s.drawn (s.regs i.b.toNat)) with drawn := s.drawn + 1 }
 else if 32 < i.op then s.put i.a.toNat (applyV (i.op - 32) (s.regs i.b.toNat) (s.regs i.c.toNat))
 else s
def Mt (f : Ft) (m : Nat → Int) : Prop := ∀ r, r < 8 → (f.regs r).is_ = true → (f.regs r).n = m r
theorem Mt.set {f : Ft} {m : Nat → Int} (h : Mt f m) {c : Bool} {a : Nat} {y : Kn} {z : Int} (hy : y.is_ = true → y.n = z) : Mt ⟨c, setK f.regs a y⟩ (fun j => if j = a then z else m j) := by
 intro r hr hi
 by_cases q : r = a
 ·simp only [setK, if_pos q] at hi ⊢
  exact hy hi
 ·simp only [setK, if_neg q] at hi ⊢
  exact h r hr hi
theorem step_sound {n k : Nat} {x : Ins} (hR : RightI n k x) {lp ll : Int} {o : List Int} {f : Ft} {s : MS} (hf : Mt f s.regs) (hgo : mdE lp ll s x = true) : ∃ h, (mdN s x k, h) ∈ z7_ x k f ∧ Mt h (mdS o s x).regs := by
 have hg := goesB_of hR.one
 have ht := targB_of hR.one
 have ha8 : x.a.toNat < 8 := by have := hR.a; omega
 have hb8 : x.b.toNat < 8 := by have := hR.b; omega
 have hc8 : x.c.toNat < 8 := by have := hR.c; omega
 rcases hR.cls with q | q | q | q | q | q | q | q | q | q | q | q
 ·simp [mdE, q] at hgo
 ·simp [mdE, q] at hgo
 ·rw [q] at hg ht
  refine ⟨⟨f.reached, setK f.regs x.a.toNat (resK x f.regs).1⟩, ?_, ?_⟩
  ·exact k47_
  ·rw [show (mdS o s x).regs = fun j => if j = x.a.toNat then x.n else s.regs j by simp [mdS, q, MS.put]]
   refine hf.set ?_
   simp [resK, q]
 ·rw [q] at hg ht
  refine ⟨⟨f.reached, setK f.regs x.a.toNat (resK x f.regs).1⟩, ?_, ?_⟩
  ·exact k47_
  ·rw [show (mdS o s x).regs = fun j => if j = x.a.toNat then s.regs x.b.toNat else s.regs j by simp [mdS, q, MS.put]]
   refine hf.set ?_
   simp only [resK, q]
   exact hf _ hb8
 ·rw [q] at hg ht
  refine ⟨⟨f.reached, setK f.regs x.a.toNat (resK x f.regs).1⟩, ?_, ?_⟩
  ·exact k47_
  ·rw [show (mdS o s x).regs = fun j => if j = x.a.toNat then s.cells.getD (s.regs x.b.toNat).toNat 0 else s.regs j by simp [mdS, q, MS.put]]
   refine hf.set ?_
   simp [resK, q, K0]
 ·rw [q] at hg ht
  refine ⟨f, ?_, ?_⟩
  ·exact k47_
  ·exact k48_
 ·rw [q] at hg ht
  refine ⟨⟨f.reached, setK f.regs x.a.toNat (resK x f.regs).1⟩, ?_, ?_⟩
  ·exact k47_
  ·rw [show (mdS o s x).regs = fun j => if j = x.a.toNat then dvI o s.drawn (s.regs x.b.toNat) else s.regs j by simp [mdS, q, MS.put]]
   refine hf.set ?_
   simp [resK, q, K0]
 ·rw [q] at hg ht
  refine ⟨f, ?_, ?_⟩
  ·exact k47_
  ·exact k48_
 ·rw [q] at hg ht
  have ht1 : targB x = true := ht.trans rfl
  have hT : targV x = x.n := by unfold targV; rw [if_pos ht1]
  refine ⟨f, ?_, ?_⟩
  ·have : mdN s x k = targV x := by rw [hT]; simp [mdN, q]
   rw [this]
   simp only [z7_, q]; exact emit_to ht
  ·exact k48_
 ·rw [q] at hg ht
  have ht1 : targB x = true := ht.trans rfl
  have hT : targV x = x.n := by unfold targV; rw [if_pos ht1]
  refine ⟨f, ?_, by rw [show (mdS o s x).regs = s.regs by simp [mdS, q]]; exact hf⟩
  have hA := hf x.a.toNat ha8
  by_cases z : s.regs x.a.toNat = 0
  ·exact d19_
  ·exact d20_
 ·rw [q] at hg ht
  have ht1 : targB x = true := ht.trans rfl
  have hT : targV x = x.n := by unfold targV; rw [if_pos ht1]
  refine ⟨f, ?_, by rw [show (mdS o s x).regs = s.regs by simp [mdS, q]]; exact hf⟩
  have hA := hf x.a.toNat ha8
  by_cases z : s.regs x.a.toNat < 0
  ·exact d19_
  ·exact d20_
 ·have hw : yn_ (x.op - 32) (s.regs x.c.toNat) = 0 := by
   unfold mdE at hgo
   rw [if_neg (by omega), if_neg (by omega), if_neg (by omega), if_neg (by omega), if_neg (by omega)] at hgo
   exact eq_of_beq hgo
  have hgt : goesB x = true := by rw [hg]; simp; omega
  have hres : (resK x f.regs).2 = true ∧ ((resK x f.regs).1.is_ = true → (resK x f.regs).1.n = applyV (x.op - 32) (s.regs x.b.toNat) (s.regs x.c.toNat)) := by
   unfold resK
   rw [if_neg (by omega), if_neg (by omega), if_neg (by omega)]
   split
   ·rename_i e
    obtain ⟨e1, e2⟩ := e
    have h0 := hf x.c.toNat hc8 (by rw [e2])
    rw [e2] at h0
    exfalso
    unfold yn_ at hw
    rw [← h0] at hw
    simp [divB] at e1
    rw [if_neg (by omega), if_pos ⟨rfl, by omega, by omega⟩] at hw
    cases hw
   ·split
    ·exact ⟨rfl, fun e => by cases e⟩
    ·rename_i e
     have ib : (f.regs x.b.toNat).is_ = true := by
      cases h : (f.regs x.b.toNat).is_
      ·exact absurd (.inl h) e
      ·rfl
     have ic : (f.regs x.c.toNat).is_ = true := by
      cases h : (f.regs x.c.toNat).is_
      ·exact absurd (.inr h) e
      ·rfl
     rw [hf _ hb8 ib, hf _ hc8 ic, hw]
     exact ⟨rfl, fun _ => rfl⟩
  refine ⟨⟨f.reached, setK f.regs x.a.toNat (resK x f.regs).1⟩, ?_, ?_⟩
  ·rw [show mdN s x k = k + 1 by unfold mdN; rw [if_neg (by omega), if_neg (by omega), if_neg (by omega)]]
   unfold z7_
   rw [if_neg (by omega), if_neg (by omega), if_neg (by omega), if_pos (by omega), if_pos hres.1]
   exact emit_go rfl
  ·rw [show (mdS o s x).regs = fun j => if j = x.a.toNat then applyV (x.op - 32) (s.regs x.b.toNat) (s.regs x.c.toNat) else s.regs j by
    unfold mdS
    rw [if_neg (by omega), if_neg (by omega), if_neg (by omega), if_neg (by omega), if_neg (by omega), if_pos (by omega)]
    rfl]
   exact hf.set hres.2
theorem not_doomed {n k : Nat} {x : Ins} (hR : RightI n k x) {lc lp ll : Int} {f : Ft} {s : MS} (hf : Mt f s.regs) (hgo : mdE lp ll s x = true) (hl : (s.cells.length : Int) = lc) : whyE lc lp ll x f = 0 := by
 have ha8 : x.a.toNat < 8 := by have := hR.a; omega
 have hb8 : x.b.toNat < 8 := by have := hR.b; omega
 have hc8 : x.c.toNat < 8 := by have := hR.c; omega
 have hA := hf x.a.toNat ha8
 have hB := hf x.b.toNat hb8
 have hC := hf x.c.toNat hc8
 unfold whyE
 split
 ·rfl
 ·unfold mdE at hgo
  split at hgo
  ·cases hgo
  ·rename_i q1
   rw [if_neg (by omega)]
   split at hgo
   ·rename_i q2
    have := of_decide_eq_true hgo
    rw [if_pos q2, if_neg]
    rintro (e | ⟨e, e2⟩)
    ·omega
    ·rw [hB e] at e2; omega
   ·rename_i q2
    rw [if_neg q2]
    split at hgo
    ·rename_i q3
     have := of_decide_eq_true hgo
     rw [if_neg (by omega), if_neg (by omega), if_neg (fun e => by have := hB e.2.1; omega), if_neg (fun e => by have := e.1; simp [divB] at this; omega)]
    ·rename_i q3
     split at hgo
     ·rename_i q4
      have := of_decide_eq_true hgo
      rw [if_neg (by omega), if_neg (fun e => by have := hA e.2.1; omega), if_neg (by omega), if_neg (fun e => by have := e.1; simp [divB] at this; omega)]
     ·rename_i q4
      rw [if_neg (by omega), if_neg (by omega), if_neg (by omega)]
      split
      ·rename_i e
       obtain ⟨e1, e2, e3⟩ := e
       have h0 := hC e2
       simp [divB] at e1
       split at hgo
       ·omega
       ·have hw := eq_of_beq hgo
        unfold yn_ at hw
        rw [if_neg (by omega), if_pos ⟨by omega, by omega, by omega⟩] at hw
        cases hw
      ·rfl
def oldB (ρ : Nat → Nat) : List HB → List HB → List Nat → List (Nat × HB)
 | [], _, _ => []
 | b :: L0, L1, l => match L1, l with
  | c :: L1, j :: l => bif b.mine then (j, c.ren ρ) :: oldB ρ L0 L1 l else oldB ρ L0 L1 l
  | _, _ => []
def mrgL : List HB → List HB → List HB
 | [], L1 => L1
 | b :: L0, L1 => match L1 with
  | c :: L1 => (bif b.mine then c else b) :: mrgL L0 L1
  | [] => []
def noRo2 : List HB → List HB → Bool
 | [], L1 => L1.all fun c => !c.isRo
 | b :: L0, L1 => match L1 with
  | c :: L1 => (!b.mine || (c.born && !c.isRo)) && noRo2 L0 L1
  | [] => true
theorem hp_cons (b : HB) (L : List HB) (i : Nat) : hp (b :: L) (i + 1) = hp L i := by unfold hp; simp
theorem hp_zero (b : HB) (L : List HB) : hp (b :: L) 0 = b := by unfold hp; simp
theorem noRo2_old : ∀ {L0 L1 : List HB}, noRo2 L0 L1 = true → L0.length ≤ L1.length → ∀ i, i < L0.length → (hp L0 i).mine = true → (hp L1 i).born = true ∧ (hp L1 i).isRo = false
 | [], _, _, _, i, hi, _ => by simp at hi
 | b :: L0, [], _, hl, _, _, _ => by simp at hl
 | b :: L0, c :: L1, h, hl, i, hi, hm => by
  simp only [noRo2, Bool.and_eq_true, Bool.or_eq_true, Bool.not_eq_true'] at h
  cases i with
  | zero =>
   rw [hp_zero] at hm
   rw [hp_zero]
   rcases h.1 with h1 | h1
   ·rw [hm] at h1; cases h1
   ·exact h1
  | succ i =>
   rw [hp_cons] at hm
   rw [hp_cons]
   exact noRo2_old h.2 (by simpa using hl) i (by simpa using hi) hm
theorem noRo2_new : ∀ {L0 L1 : List HB}, noRo2 L0 L1 = true → L0.length ≤ L1.length → ∀ i, L0.length ≤ i → (hp L1 i).isRo = false
 | [], L1, h, _, i, _ => by
  simp only [noRo2, List.all_eq_true] at h
  unfold hp
  rw [List.getD_eq_getElem?_getD]
  cases hh : L1[i]? with
  | none => rfl
  | some x => simpa using h x (List.mem_of_getElem? hh)
 | b :: L0, [], _, hl, _, _ => by simp at hl
 | b :: L0, c :: L1, h, hl, i, hi => by
  simp only [noRo2, Bool.and_eq_true] at h
  cases i with
  | zero => simp at hi
  | succ i =>
   rw [hp_cons]
   exact noRo2_new h.2 (by simpa using hl) i (by simpa using hi)
theorem mrgL_get : ∀ {L0 L1 : List HB}, L0.length ≤ L1.length → ∀ i, hp (mrgL L0 L1) i = if i < L0.length then (bif (hp L0 i).mine then hp L1 i else hp L0 i) else hp L1 i
 | [], L1, _, i => by simp [mrgL]
 | b :: L0, [], hl, _ => by simp at hl
 | b :: L0, c :: L1, hl, i => by
  cases i with
  | zero => simp [mrgL, hp_zero]
  | succ i =>
   simp only [mrgL, hp_cons]
   rw [mrgL_get (by simpa using hl) i]
   simp
theorem wrs_oldB_ne {ρ : Nat → Nat} : ∀ {L0 L1 : List HB} {l : List Nat} {h : HM} {j : Nat}, (∀ i, i < L0.length → (hp L0 i).mine = true → l.getD i 0 ≠ j) → wrs h (oldB ρ L0 L1 l) j = h j
 | [], _, _, h, j, _ => rfl
 | b :: L0, [], l, h, j, _ => rfl
 | b :: L0, c :: L1, [], h, j, _ => rfl
 | b :: L0, c :: L1, k :: l, h, j, hn => by
  have ih := fun h' => wrs_oldB_ne (ρ := ρ) (L0 := L0) (L1 := L1) (l := l) (h := h') (j := j) (fun i hi hm => by
   have := hn (i + 1) (by simpa using hi) (by rw [hp_cons]; exact hm)
   simpa using this)
  cases hb : b.mine with
  | false => simp only [oldB, hb, cond_false]; exact ih h
  | true =>
   simp only [oldB, hb, cond_true]
   show wrs (upd h k (c.ren ρ)) (oldB ρ L0 L1 l) j = h j
   rw [ih, zy_ (fun e => hn 0 (by simp) (by rw [hp_zero]; exact hb) (by simpa using e.symm))]
theorem wrs_oldB {ρ : Nat → Nat} : ∀ {L0 L1 : List HB} {l : List Nat} {h : HM}, L0.length ≤ L1.length → l.length = L0.length → (∀ i j, i < j → j < L0.length → (hp L0 i).mine = true → (hp L0 j).mine = true → l.getD i 0 ≠ l.getD j 0) → ∀ i, i < L0.length → (hp L0 i).mine = true → wrs h (oldB ρ L0 L1 l) (l.getD i 0) = (hp L1 i).ren ρ
 | [], _, _, h, _, _, _, i, hi, _ => by simp at hi
 | b :: L0, [], l, h, hl, _, _, _, _, _ => by simp at hl
 | b :: L0, c :: L1, [], h, _, hl, _, _, _, _ => by simp at hl
 | b :: L0, c :: L1, k :: l, h, hle, hln, hn, i, hi, hm => by
  cases i with
  | zero =>
   rw [hp_zero] at hm
   simp only [oldB, hm, cond_true, List.getD_cons_zero]
   show wrs (upd h k (c.ren ρ)) (oldB ρ L0 L1 l) k = _
   rw [wrs_oldB_ne (fun i hi hm' e => hn 0 (i + 1) (by omega) (by simpa using hi) (by rw [hp_zero]; exact hm) (by rw [hp_cons]; exact hm') (by simpa using e.symm)), zl_, hp_zero]
  | succ i =>
   rw [hp_cons] at hm
   have ih := fun h' => wrs_oldB (ρ := ρ) (L0 := L0) (L1 := L1) (l := l) (h := h') (by simpa using hle) (by simpa using hln) (fun a b hab hb ha hb' => by
    have := hn (a + 1) (b + 1) (by omega) (by simpa using hb) (by rw [hp_cons]; exact ha) (by rw [hp_cons]; exact hb')
    simpa using this) i (by simpa using hi) hm
   rw [List.getD_cons_succ, hp_cons]
   cases hb : b.mine with
   | false => simp only [oldB, hb, cond_false]; exact ih h
   | true =>
    simp only [oldB, hb, cond_true]
    exact ih (upd h k (c.ren ρ))
theorem wrs_app : ∀ (l : List (Nat × HB)) {m : List (Nat × HB)} {h : HM}, wrs h (l ++ m) = wrs (wrs h l) m
 | [], _, _ => rfl
 | p :: l, m, h => wrs_app l
theorem laid_rw {L0 L1 : List HB} {h : HM} {l : List Nat} {m : Nat} {v : SV} (hlen : l.length = L0.length) (hpos : 0 < L0.length) (h00 : l.getD 0 0 = 0) (hz : hp L0 0 = .gone) (hfit : FitL (rhoL l m) h L0 l) (hinj : ∀ i j, i < L0.length → j < L0.length → i ≠ j → (hp L0 i).mine = true → (hp L0 j).mine = true ∨ (hp L0 j).isRo = true → l.getD i 0 ≠ l.getD j 0)
  (hm : ∀ i, m ≤ i → i < m + (L1.length - L0.length) → h i = .dead) (hle : L0.length ≤ L1.length) (hno : noRo2 L0 L1 = true)
  (hst0 : yb_ (hp L0) L0) (hstb : ∀ j, (h j).stable h) (hst1 : yb_ (hp (mrgL L0 L1)) (mrgL L0 L1)) (hv : zb_ (hp (mrgL L0 L1)) v) :
  Laid L0 L1 h (wrs h (oldB (rhoL l m) L0 L1 l ++ newB (rhoL l m) m (L1.drop L0.length))) (rhoL l m) m v := by
 rw [wrs_app]
 obtain ⟨k, hk⟩ : ∃ k, k = L1.length - L0.length := ⟨_, rfl⟩
 have hdl : (L1.drop L0.length).length = k := by rw [List.length_drop, hk]
 have hrl : ∀ i, i < L0.length → rhoL l m i = l.getD i 0 := fun i hi => if_pos (by omega)
 have hrn : ∀ i, L0.length ≤ i → rhoL l m i = m + (i - L0.length) := fun i hi => by
  unfold rhoL; rw [if_neg (by omega), hlen]
 have hget : ∀ j, m ≤ j → (L1.drop L0.length).getD (j - m) .dead = hp L1 (L0.length + (j - m)) := fun j hj => by
  unfold hp
  rw [List.getD_eq_getElem?_getD, List.getD_eq_getElem?_getD, List.getElem?_drop]
 have hmr := mrgL_get hle
 generalize hh1 : wrs h (oldB (rhoL l m) L0 L1 l) = h1
 have hnewj : ∀ j, m ≤ j → j < m + k → wrs h1 (newB (rhoL l m) m (L1.drop L0.length)) j = (hp L1 (L0.length + (j - m))).ren (rhoL l m) := fun j h1 h3 => by
  rw [wrs_newB, if_pos ⟨h1, by omega⟩, hget j h1]
 have holdj : ∀ j, ¬ (m ≤ j ∧ j < m + k) → wrs h1 (newB (rhoL l m) m (L1.drop L0.length)) j = h1 j := fun j hj => by
  rw [wrs_newB, if_neg (by rw [hdl]; exact hj)]
 have bornold : ∀ j, (h j).born = true → ¬ (m ≤ j ∧ j < m + k) := fun j hj hc => by
  rw [hm j hc.1 (by omega)] at hj; cases hj
 have hfit' : ∀ i, i < L0.length → Fit (rhoL l m) (hp L0 i) (h (rhoL l m i)) := fun i hi => by rw [hrl i hi]; exact fitL_get hfit i hi
 have hborn : ∀ i, i < L0.length → (h (l.getD i 0)).born = true := fun i hi => by rw [← hrl i hi]; exact (hfit' i hi).born
 have him : ∀ i, i < L0.length → (hp L0 i).mine = true → h1 (l.getD i 0) = (hp L1 i).ren (rhoL l m) := fun i hi hmi => by
  rw [← hh1]
  exact wrs_oldB hle hlen (fun a b hab hb ha hb' => hinj a b (by omega) hb (by omega) ha (.inl hb')) i hi hmi
 have hne : ∀ j, (∀ i, i < L0.length → (hp L0 i).mine = true → l.getD i 0 ≠ j) → h1 j = h j := fun j hj => by
  rw [← hh1]
  exact wrs_oldB_ne hj
 have born_ren : ∀ {b : HB}, b.born = true → (b.ren (rhoL l m)).born = true := fun {b} hb => by
  cases b <;> first | rfl | (cases hb; done)
 have more1 : ∀ j, (h j).born = true → (h1 j).born = true := fun j hj => by
  by_cases hc : ∃ i, i < L0.length ∧ (hp L0 i).mine = true ∧ l.getD i 0 = j
  ·obtain ⟨i, hi, hmi, rfl⟩ := hc
   rw [him i hi hmi]
   exact born_ren (noRo2_old hno hle i hi hmi).1
  ·rw [hne j (fun i hi hmi e => hc ⟨i, hi, hmi, e⟩)]; exact hj
 have more : ∀ i, (h i).born = true → (wrs h1 (newB (rhoL l m) m (L1.drop L0.length)) i).born = true := fun i hi => by rw [holdj i (bornold i hi)]; exact more1 i hi
 have moreG : ∀ i, (hp (mrgL L0 L1) i).born = true → (wrs h1 (newB (rhoL l m) m (L1.drop L0.length)) (rhoL l m i)).born = true := fun i hi => by
  rw [hmr i] at hi
  split at hi
  ·rename_i hlt
   exact more _ (hfit' i hlt).born
  ·rename_i hge
   have hlt : i < L1.length := by
    rcases Nat.lt_or_ge i L1.length with h' | h'
    ·exact h'
    ·rw [yh_ h'] at hi; cases hi
   rw [hrn i (by omega), hnewj _ (by omega) (by omega), show L0.length + (m + (i - L0.length) - m) = i by omega]
   exact born_ren hi
 have stG := yo_ hst1
 have ren_st : ∀ {b : HB}, b.stable (hp (mrgL L0 L1)) → (b.ren (rhoL l m)).stable (wrs h1 (newB (rhoL l m) m (L1.drop L0.length))) := fun {b} hs => by
  cases b with
  | own t u ex => exact zb_.ren moreG hs
  | ro u => exact zb_.ren moreG hs
  | raw o => trivial
  | gone => trivial
  | dead => trivial
 refine { z := by rw [hrl 0 hpos, h00], z0 := hz, new := fun i hi => hrn i hi, pre := hfit', inj := fun i j hi hj hne hmi hmj => by rw [hrl i hi, hrl j hj]; exact hinj i j hi hj hne hmi hmj, img := fun i hi hmi => ?_, old := fun j hj hno => ?_, fresh := fun j hj => ?_, un := fun i hi hb => ?_, st0 := yo_ hst0, st2 := fun j => ?_, stv := hv.ren moreG }
 ·rw [hrl i hi, holdj _ (bornold _ (hborn i hi)), him i hi hmi]
  exact ⟨rfl, (noRo2_old hno hle i hi hmi).2⟩
 ·rw [holdj j (bornold j hj)]
  exact hne j fun i hi hmi => by rw [← hrl i hi]; exact hno i hi hmi
 ·by_cases hc : m ≤ j ∧ j < m + k
  ·exact .inr ⟨hc.1, hnewj j hc.1 hc.2, noRo2_new hno hle _ (by omega)⟩
  ·left
   rw [holdj j hc, hne j (fun i hi hmi e => by rw [← e, hborn i hi] at hj; cases hj)]
   cases hh : h j <;> rw [hh] at hj <;> first | rfl | (cases hj; done)
 ·exact d14_
 ·by_cases hc : m ≤ j ∧ j < m + k
  ·rw [hnewj j hc.1 hc.2]
   have hs := stG (L0.length + (j - m))
   rw [hmr, if_neg (by omega)] at hs
   exact ren_st hs
  ·rw [holdj j hc]
   by_cases hc2 : ∃ i, i < L0.length ∧ (hp L0 i).mine = true ∧ l.getD i 0 = j
   ·obtain ⟨i, hi, hmi, rfl⟩ := hc2
    rw [him i hi hmi]
    have hs := stG i
    rw [hmr, if_pos hi, hmi] at hs
    exact ren_st hs
   ·rw [hne j (fun i hi hmi e => hc2 ⟨i, hi, hmi, e⟩)]
    exact HB.stable_more (hstb j) more
theorem callRW {P : Program} {f : FuncId} {args : List SV} {L0 L1 : List HB} {v : SV} {w0 w : World} {M : Nat → Prop} {β : Env} {h h' : HM} {m : Nat} (l : List Nat) (H : LitOk P f args L0 v L1) (R : Rep w0 M β h' w) (hlen : l.length = L0.length) (hpos : 0 < L0.length) (h00 : l.getD 0 0 = 0) (hz : hp L0 0 = .gone) (hfit : FitL (rhoL l m) h' L0 l)
  (hinj : ∀ i j, i < L0.length → j < L0.length → i ≠ j → (hp L0 i).mine = true → (hp L0 j).mine = true ∨ (hp L0 j).isRo = true → l.getD i 0 ≠ l.getD j 0)
  (hm : ∀ i, m ≤ i → h i = .dead) (hwr : ∀ p ∈ newB (rhoL l m) m (L1.drop L0.length), h' p.1 = h p.1) (hle : L0.length ≤ L1.length) (hno : noRo2 L0 L1 = true)
  (hst0 : yb_ (hp L0) L0) (hsta : zc_ (hp L0) args) (hst1 : yb_ (hp (mrgL L0 L1)) (mrgL L0 L1)) (hv : zb_ (hp (mrgL L0 L1)) v) :
  Calls P f (denL β (renL (rhoL l m) args)).toArray w fun e w' => ∃ β', (∀ i, (h' i).born = true → β i = β' i) ∧ Rep w0 M β' (wrs h' (oldB (rhoL l m) L0 L1 l ++ newB (rhoL l m) m (L1.drop L0.length))) w' ∧ zb_ (wrs h' (oldB (rhoL l m) L0 L1 l ++ newB (rhoL l m) m (L1.drop L0.length))) (v.ren (rhoL l m)) ∧ e = .returned ((v.ren (rhoL l m)).den β') :=
 call_lit H R (laid_rw hlen hpos h00 hz hfit hinj (fun i hi hlt => by
  obtain ⟨b, hb⟩ := newB_mem (ρ := rhoL l m) (l := L1.drop L0.length) hi (by rw [List.length_drop]; exact hlt)
  exact (hwr _ hb).trans (hm i hi)) hle hno hst0 R.st hst1 hv) hsta
def Bun1 (ρ : Nat → Nat) (c : HB) : HB → Prop
 | .own t u ex => Less c (.own t (u.ren ρ) ex)
 | .raw _ => False
 | b => Fit ρ b c
def BunL (ρ : Nat → Nat) (h : HM) : List HB → List Nat → Prop
 | [], _ => True
 | b :: L, n => match n with
  | j :: n => Bun1 ρ (h j) b ∧ BunL ρ h L n
  | [] => False
theorem bunL_get {ρ : Nat → Nat} {h : HM} : ∀ {L : List HB} {l : List Nat}, BunL ρ h L l → ∀ i, i < L.length → Bun1 ρ (h (l.getD i 0)) (hp L i)
 | [], l, _, i, hi => by simp at hi
 | b :: L, [], hf, _, _ => by exact hf.elim
 | b :: L, j :: l, hf, 0, _ => hf.1
 | b :: L, j :: l, hf, i + 1, hi => by
  have := bunL_get hf.2 i (by simpa using hi)
  unfold hp at this ⊢
  simpa using this
theorem fitL_of {ρ : Nat → Nat} {h : HM} : ∀ {L : List HB} {l : List Nat}, l.length = L.length → (∀ i, i < L.length → Fit ρ (hp L i) (h (l.getD i 0))) → FitL ρ h L l
 | [], l, _, _ => trivial
 | b :: L, [], hl, _ => by simp at hl
 | b :: L, j :: l, hl, hf => by
  refine ⟨?_, fitL_of (by simpa using hl) fun i hi => ?_⟩
  ·have := hf 0 (by simp)
   rwa [hp_zero] at this
  ·have := hf (i + 1) (by simpa using hi)
   rw [hp_cons] at this
   simpa using this
def nodupN : List Nat → Bool
 | [] => true
 | j :: l => !memN j l && nodupN l
theorem nodupN_spec : ∀ {l : List Nat}, nodupN l = true → ∀ i j, i < j → j < l.length → l.getD i 0 ≠ l.getD j 0
 | [], _, i, j, _, hj => by simp at hj
 | k :: l, h, i, j, hij, hj => by
  simp only [nodupN, Bool.and_eq_true, Bool.not_eq_true'] at h
  obtain ⟨j, rfl⟩ : ∃ j', j = j' + 1 := ⟨j - 1, by omega⟩
  rw [List.getD_cons_succ]
  have hj' : j < l.length := by simpa using hj
  cases i with
  | zero =>
   rw [List.getD_cons_zero]
   intro e
   have : k ∈ l := by
    rw [e, List.getD_eq_getElem?_getD, List.getElem?_eq_getElem hj']
    exact List.getElem_mem hj'
   rw [memN_iff.2 this] at h
   cases h.1
  | succ i =>
   rw [List.getD_cons_succ]
   exact nodupN_spec h.2 i j (by omega) hj'
theorem nodupN_ne {l : List Nat} (h : nodupN l = true) {i j : Nat} (hi : i < l.length) (hj : j < l.length) (hne : i ≠ j) : l.getD i 0 ≠ l.getD j 0 := by
 rcases Nat.lt_or_gt_of_ne hne with h' | h'
 ·exact nodupN_spec h i j h' hj
 ·exact (nodupN_spec h j i h' hi).symm
theorem less_is_born {b c : HB} (h : Less b c) (hc : c.born = true) : b.born = true := by
 cases h with
 | same => exact hc
 | dead => cases hc
 | gone h => exact h
 | arr => rfl
 | loose => rfl
 | val => rfl
theorem bun1_born {ρ : Nat → Nat} {c b : HB} (h : Bun1 ρ c b) : c.born = true := by
 cases b with
 | own t u ex => exact less_is_born h rfl
 | ro u => exact Fit.born (ρ := ρ) (b := .ro u) h
 | gone => exact Fit.born (ρ := ρ) (b := .gone) h
 | raw o => exact h.elim
 | dead => exact Fit.born (ρ := ρ) (b := .dead) h
theorem bun_ok {f : FuncId} {args0 args : List SV} {L0 L1 : List HB} {v val : SV} {w0 w : World} {M : Nat → Prop} {β : Env} {h h' : HM} {m : Nat} {wr : List (Nat × HB)} (l : List Nat) (H : LitOk Try.prog f args0 L0 v L1) (R : Rep w0 M β h' w)
  (hlen : l.length = L0.length) (hpos : 0 < L0.length) (h00 : l.getD 0 0 = 0) (hz : hp L0 0 = .gone) (hnd : nodupN l = true) (hB : BunL (rhoL l m) h' L0 l)
  (hm : ∀ i, m ≤ i → h i = .dead) (hwr : ∀ p ∈ newB (rhoL l m) m (L1.drop L0.length), h' p.1 = h p.1) (hle : L0.length ≤ L1.length) (hno : noRo2 L0 L1 = true)
  (hst0 : yb_ (hp L0) L0) (hsta : zc_ (hp L0) args0) (hst1 : yb_ (hp (mrgL L0 L1)) (mrgL L0 L1)) (hv : zb_ (hp (mrgL L0 L1)) v)
  (hargs : renL (rhoL l m) args0 = args) (hval : v.ren (rhoL l m) = val) (hw : oldB (rhoL l m) L0 L1 l ++ newB (rhoL l m) m (L1.drop L0.length) = wr) :
  Calls Try.prog f (denL β args).toArray w fun e w' => ∃ β', (∀ i, (h' i).born = true → β i = β' i) ∧ Rep w0 M β' (wrs h' wr) w' ∧ zb_ (wrs h' wr) val ∧ e = .returned (val.den β') := by
 have hne : ∀ i j, i < L0.length → j < L0.length → i ≠ j → l.getD i 0 ≠ l.getD j 0 := fun i j hi hj hn => nodupN_ne hnd (by omega) (by omega) hn
 have hbun := bunL_get hB
 obtain ⟨H1, hH1⟩ : ∃ H1, H1 = wrs h' (oldB (rhoL l m) L0 L0 l) := ⟨_, rfl⟩
 have him : ∀ i, i < L0.length → (hp L0 i).mine = true → H1 (l.getD i 0) = (hp L0 i).ren (rhoL l m) := fun i hi hmi => by
  rw [hH1]
  exact wrs_oldB (Nat.le_refl _) hlen (fun a b hab hb _ _ => hne a b (by omega) hb (by omega)) i hi hmi
 have hneq : ∀ j, (∀ i, i < L0.length → (hp L0 i).mine = true → l.getD i 0 ≠ j) → H1 j = h' j := fun j hj => by
  rw [hH1]; exact wrs_oldB_ne hj
 have hrl : ∀ i, i < L0.length → rhoL l m i = l.getD i 0 := fun i hi => if_pos (by omega)
 have less1 : ∀ i, Less (h' i) (H1 i) := fun j => by
  by_cases hc : ∃ i, i < L0.length ∧ (hp L0 i).mine = true ∧ l.getD i 0 = j
  ·obtain ⟨i, hi, hmi, rfl⟩ := hc
   rw [him i hi hmi]
   have := hbun i hi
   cases hh : hp L0 i <;> rw [hh] at hmi this <;> first | (cases hmi; done) | exact this.elim | exact this
  ·rw [hneq j fun i hi hmi e => hc ⟨i, hi, hmi, e⟩]; exact .same _
 have born1 : ∀ i, (h' i).born = true → (H1 i).born = true := fun j hj => by
  by_cases hc : ∃ i, i < L0.length ∧ (hp L0 i).mine = true ∧ l.getD i 0 = j
  ·obtain ⟨i, hi, hmi, rfl⟩ := hc
   rw [him i hi hmi]
   cases hh : hp L0 i <;> rw [hh] at hmi <;> first | (cases hmi; done) | rfl
  ·rw [hneq j fun i hi hmi e => hc ⟨i, hi, hmi, e⟩]; exact hj
 have bornL : ∀ i, (hp L0 i).born = true → (H1 (rhoL l m i)).born = true := fun i hi => by
  have hlt : i < L0.length := by
   rcases Nat.lt_or_ge i L0.length with h' | h'
   ·exact h'
   ·rw [yh_ h'] at hi; cases hi
  rw [hrl i hlt]
  exact born1 _ (bun1_born (hbun i hlt))
 have H0 : H1 0 = .gone := by
  rw [hneq 0 fun i hi hmi e => ?_]
  ·exact R.nil0
  ·have : i = 0 := by
    by_cases hi0 : i = 0
    ·exact hi0
    ·exact absurd (e.trans h00.symm) (hne i 0 hi hpos hi0)
   subst this
   rw [hz] at hmi; cases hmi
 have R1 : Rep w0 M β H1 w := R.less less1 H0 fun j => by
  by_cases hc : ∃ i, i < L0.length ∧ (hp L0 i).mine = true ∧ l.getD i 0 = j
  ·obtain ⟨i, hi, hmi, rfl⟩ := hc
   rw [him i hi hmi]
   have hs := yo_ hst0 i
   have hb := hbun i hi
   cases hh : hp L0 i <;> rw [hh] at hmi hs hb <;> first | (cases hmi; done) | exact zb_.ren bornL hs | exact hb.elim
  ·rw [hneq j fun i hi hmi e => hc ⟨i, hi, hmi, e⟩]
   exact HB.stable_more (R.st j) born1
 have hfit : FitL (rhoL l m) H1 L0 l := fitL_of hlen fun i hi => by
  cases hh : hp L0 i with
  | own t u ex =>
   rw [him i hi (by rw [hh]; rfl), hh]
   exact .own
  | raw o => exact (by have hb := hbun i hi; rw [hh] at hb; exact hb.elim)
  | _ =>
   have hb := hbun i hi
   rw [hneq (l.getD i 0) fun k hk hmk e => by
    by_cases hki : k = i
    ·subst hki; rw [hh] at hmk; cases hmk
    ·exact hne k i hk hi hki e]
   rw [hh] at hb
   exact hb
 have hnew : ∀ p ∈ newB (rhoL l m) m (L1.drop L0.length), H1 p.1 = h p.1 := fun p hp => by
  have hge : m ≤ p.1 := by
   have : ∀ (L : List HB) (k : Nat), m ≤ k → p ∈ newB (rhoL l m) k L → m ≤ p.1 := by
    intro L
    induction L with
    | nil => intro k hk hp; cases hp
    | cons b L ih =>
     intro k hk hp
     cases hp with
     | head => exact hk
     | tail _ hp => exact ih (k + 1) (by omega) hp
   exact this _ m (Nat.le_refl _) hp
  rw [hneq p.1 fun i hi hmi e => ?_]
  ·exact hwr p hp
  ·have hb := bun1_born (hbun i hi)
   rw [e, hwr p hp, hm _ hge] at hb
   cases hb
 have C := callRW (h := h) (m := m) l H R1 hlen hpos h00 hz hfit (fun i j hi hj hn _ _ => hne i j hi hj hn) hm hnew hle hno hst0 hsta hst1 hv
 rw [hargs, hval, hw] at C
 have hww : wrs H1 wr = wrs h' wr := by
  rw [← hw, wrs_app, wrs_app]
  congr 1
  funext j
  by_cases hc : ∃ i, i < L0.length ∧ (hp L0 i).mine = true ∧ l.getD i 0 = j
  ·obtain ⟨i, hi, hmi, rfl⟩ := hc
   rw [wrs_oldB hle hlen (fun a b hab hb _ _ => hne a b (by omega) hb (by omega)) i hi hmi, wrs_oldB hle hlen (fun a b hab hb _ _ => hne a b (by omega) hb (by omega)) i hi hmi]
  ·rw [wrs_oldB_ne fun i hi hmi e => hc ⟨i, hi, hmi, e⟩, wrs_oldB_ne fun i hi hmi e => hc ⟨i, hi, hmi, e⟩]
   exact hneq j fun i hi hmi e => hc ⟨i, hi, hmi, e⟩
 rw [hww] at C
 exact C.mono fun e w' ⟨β', g1, g2, g3, g4⟩ => ⟨β', fun i hi => g1 i (born1 i hi), g2, g3, g4⟩
theorem arrCl {β : Env} {n k : Nat} {f g : Nat → SV} (h : ∀ q, q < n → (f q).cl β = (g q).cl β) : (SV.arr n k f).cl β = (SV.arr n k g).cl β := by
 have e : (List.range n).flatMap (fun i => fit k (((f i).den β).cells.toList.map sane)) = (List.range n).flatMap (fun i => fit k (((g i).den β).cells.toList.map sane)) := by
  rw [List.flatMap_def, List.flatMap_def]
  exact congrArg List.flatten (List.map_congr_left fun q hq => congrArg (fit k) (h q (List.mem_range.1 hq)))
 simp only [SV.cl, SV.den, e]
theorem At.empty {w0 : World} {M : Nat → Prop} {E : Env} {n0 N : Nat} {D : List Deferred} {φ : Fr} {L : List HB} {K : Act → World → Prop} (ty k : Nat) (f : Nat → SV) (hf : ∀ (h : HM) (q : Nat), zb_ h (f q))
  (h : At w0 M E n0 N D φ (L ++ [.own ty (.arr 0 k f) false]) K) : At w0 M E n0 N D φ L K := fun a w hS => by
 obtain ⟨⟨β, hE, R, F⟩, hbn, hsz, hd⟩ := hS
 have hm : hp L L.length = .dead := yh_ (Nat.le_refl _)
 have R1 := nothing R (e := ty) (k := k) (g := f) hm (fun q => hf _ q)
 have hag : ∀ i, (hp L i).born = true → β i = setE β L.length (none, 0) i := zu_ hm
 have hborn : ∀ i, (hp L i).born = true → (upd (hp L) L.length (.own ty (.arr 0 k f) false) i).born = true := fun i hi => by
  unfold Vm.upd; split
  ·rfl
  ·exact hi
 refine h a w ⟨⟨setE β L.length (none, 0), fun i hi => (hag i (hbn i hi)).symm.trans (hE i hi), by rw [hp_append1]; exact R1, fun u v hu => ?_⟩, fun i hi => by rw [hp_append1]; exact hborn i (hbn i hi), hsz, hd⟩
 rw [hp_append1]
 obtain ⟨k1, k2⟩ := F u v hu
 exact ⟨k1.more hborn, by rw [k2]; exact k1.den hag⟩
theorem WF.empty {P : Program} {w0 : World} {M : Nat → Prop} {E : Env} {n0 N n : Nat} {D : List Deferred} {φ : Fr} {L : List HB} {c : Code} {ro : Option Nat} {Q : Exit → Act → World → Prop} (ty k : Nat) (f : Nat → SV) (hf : ∀ (h : HM) (q : Nat), zb_ h (f q))
  (h : WF ro n P c w0 M E n0 N D φ (L ++ [.own ty (.arr 0 k f) false]) Q) : WF ro n P c w0 M E n0 N D φ L Q := At.empty ty k f hf h
def nilOr (D : List Int) (b : Nat) : SV := SV.ite D.isEmpty (.sl 0 0 [] 0 0 0 (some 0)) (.sl b b [] 1 0 D.length none)
theorem nilOr_t {D : List Int} {b : Nat} (h : D.isEmpty = true) : nilOr D b = .sl 0 0 [] 0 0 0 (some 0) := by unfold nilOr; rw [h]; rfl
theorem nilOr_f {D : List Int} {b : Nat} (h : D.isEmpty = false) : nilOr D b = .sl b b [] 1 0 D.length none := by unfold nilOr; rw [h]; rfl
theorem nilOr_st {D : List Int} {b : Nat} {hh : HM} (h0 : (hh 0).born = true) (hb : (hh b).born = true) : zb_ hh (nilOr D b) := by
 cases h : D.isEmpty
 ·rw [nilOr_f h]; simp [zb_, hb]
 ·rw [nilOr_t h]; simp [zb_, h0]
theorem less_nil {t b b' : Nat} {ex : Bool} {σ : Nat → Nat} {D : List Int} (h : D.isEmpty = false) (hb : σ b = b') {n : Nat} (hn : D.length = n) : Less (.own t (.sl b' b' [] 1 0 n none) ex) ((HB.own t (nilOr D b) ex).ren σ) := by
 rw [nilOr_f h, ← hn]
 simp only [HB.ren, SV.ren, hb]
 exact .same _
theorem less_app {t : Nat} {σ : Nat → Nat} (D : List Int) (k : Int) {g : Nat → SV} (hg : ∀ q, q < D.length + 1 → ∀ β, (g q).cl β = [.int .i64 ((D ++ [k]).getD q 0)]) : Less (.own t (.arr (D.length + 1) 1 g) false) ((HB.own t (.arr (D ++ [k]).length 1 (i64S (D ++ [k]))) false).ren σ) := by
 have e : (D ++ [k]).length = D.length + 1 := by simp
 rw [e]
 refine .val (fun β => arrCl fun q hq => ?_) (fun n1 k1 f1 e => by injection e with e1 e2 e3; subst e1 e2; exact ⟨_, rfl⟩) (fun n1 k1 f1 e => by injection e with e1 e2 e3; subst e1 e2; exact ⟨_, rfl⟩)
 rw [hg q hq β]; rfl
end Go.Proofs.Ytmljmabbopkpiaa.Vm
end

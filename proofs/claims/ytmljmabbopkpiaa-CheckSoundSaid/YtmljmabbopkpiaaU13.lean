import Derived.Test.YtmljmabbopkpiaaU1
import Derived.Test.YtmljmabbopkpiaaU9
import Derived.Test.YtmljmabbopkpiaaU11
import Derived.Test.YtmljmabbopkpiaaU12
set_option linter.unusedSimpArgs false
set_option linter.unusedVariables false
set_option maxRecDepth 100000
section
namespace Go.Proofs.Ytmljmabbopkpiaa
theorem right_last' {p : List Ins} (h : (z6_ p).2 = 0) : 0 < p.length ∧ p.length ≤ 256 ∧ goesB (p.getD (p.length - 1) ⟨0, 0, 0, 0, 0⟩) = false ∧ ∀ k, k < p.length → badAt p.length (p.getD k ⟨0, 0, 0, 0, 0⟩) = 0 := by
 unfold z6_ at h
 by_cases h0 : p.length = 0
 ·rw [if_pos h0] at h; cases h
 ·by_cases h1 : 256 < p.length
  ·rw [if_neg h0, if_pos h1] at h; cases h
  ·rw [if_neg h0, if_neg h1] at h
   refine ⟨by omega, by omega, ?_⟩
   unfold checkK at h
   cases hf : p.findIdx? (fun i => badAt p.length i != 0) with
   | some k =>
    rw [hf] at h
    obtain ⟨hk, hb, _⟩ := List.findIdx?_eq_some_iff_getElem.1 hf
    exfalso
    have hg : p.getD k ⟨0, 0, 0, 0, 0⟩ = p[k] := by simp [List.getD, hk]
    dsimp only at h
    rw [hg] at h
    simp [h] at hb
   | none =>
    rw [hf] at h
    rw [List.findIdx?_eq_none_iff] at hf
    dsimp only at h
    refine ⟨?_, fun k hk => ?_⟩
    ·by_cases hg : goesB (p.getD (p.length - 1) ⟨0, 0, 0, 0, 0⟩) = true
     ·rw [if_pos hg] at h; cases h
     ·simpa using hg
    ·have := hf (p.getD k ⟨0, 0, 0, 0, 0⟩) (by
      rw [List.getD_eq_getElem?_getD, List.getElem?_eq_getElem hk]; exact List.getElem_mem hk)
     simpa using this
structure RightI (n k : Nat) (x : Ins) : Prop where
 ok : x.ok
 one : oneE x = 0
 a : x.a < 8
 b : x.b < 8
 c : x.c < 8
 targ : targB x = true → 0 ≤ targV x ∧ targV x < n
 goes : goesB x = true → k + 1 < n
 cls : x.op = 1 ∨ x.op = 2 ∨ x.op = 3 ∨ x.op = 4 ∨ x.op = 5 ∨ x.op = 6 ∨ x.op = 7 ∨ x.op = 8 ∨ x.op = 9 ∨ x.op = 10 ∨ x.op = 11 ∨ (33 ≤ x.op ∧ x.op ≤ 49)
theorem one_regs {x : Ins} (h : oneE x = 0) : x.a < 8 ∧ x.b < 8 ∧ x.c < 8 ∧ (targB x = true → 0 ≤ x.n) ∧ (x.op = 1 ∨ x.op = 2 ∨ x.op = 3 ∨ x.op = 4 ∨ x.op = 5 ∨ x.op = 6 ∨ x.op = 7 ∨ x.op = 8 ∨ x.op = 9 ∨ x.op = 10 ∨ x.op = 11 ∨ (33 ≤ x.op ∧ x.op ≤ 49)) := by
 have h0 := h
 unfold oneE at h
 have hf : yi_ x.op ≠ 0 := fun e => by rw [if_pos e] at h; cases h
 rw [if_neg hf] at h
 have hc : yr_ (yi_ x.op) x.a x.b x.c x.n := by
  by_cases q : yr_ (yi_ x.op) x.a x.b x.c x.n
  ·exact q
  ·rw [z9_ q] at h; cases h
 have ht : targB x = true → x.op = 9 ∨ x.op = 10 ∨ x.op = 11 := fun ht => by
  unfold targB at ht
  simp at ht
  exact ht.2
 revert hc hf
 unfold yi_
 split
 ·rename_i q; intro hf hc; obtain ⟨q1, q2, q3, q4⟩ := hc; exact ⟨q1, q2, q3, fun t => by omega, by omega⟩
 split
 ·exact Vm.k18_
 split
 ·rename_i q; intro hf hc; obtain ⟨q1, q2, q3⟩ := hc; exact ⟨by omega, by omega, by omega, fun t => by have := ht t; omega, by omega⟩
 split
 ·exact Vm.k18_
 split
 ·exact Vm.k19_
 split
 ·exact Vm.k19_
 split
 ·exact Vm.k19_
 ·intro hf; exact absurd rfl hf
theorem right_at {p : List Ins} (hok : ∀ x ∈ p, x.ok) (h : (z6_ p).2 = 0) {k : Nat} (hk : k < p.length) : RightI p.length k (p.getD k ⟨0, 0, 0, 0, 0⟩) := by
 obtain ⟨h0, h1, h2, h3⟩ := right_last' h
 have hb := h3 k hk
 unfold badAt at hb
 have h4 : oneE (p.getD k ⟨0, 0, 0, 0, 0⟩) = 0 := by
  by_cases q : oneE (p.getD k ⟨0, 0, 0, 0, 0⟩) = 0
  ·exact q
  ·rw [if_pos q] at hb; exact absurd hb q
 rw [if_neg (by omega)] at hb
 obtain ⟨ra, rb, rc, rt, rcl⟩ := one_regs h4
 refine ⟨hok _ (by rw [List.getD_eq_getElem?_getD, List.getElem?_eq_getElem hk]; exact List.getElem_mem hk), h4, ra, rb, rc, fun ht => ?_, fun hg => ?_, rcl⟩
 ·refine ⟨by unfold targV; rw [if_pos ht]; exact rt ht, ?_⟩
  by_cases q : (p.length : Int) ≤ targV (p.getD k ⟨0, 0, 0, 0, 0⟩)
  ·rw [if_pos ⟨ht, q⟩] at hb; cases hb
  ·omega
 ·by_cases q : k + 1 < p.length
  ·exact q
  ·have : k = p.length - 1 := by omega
   subst this
   rw [h2] at hg; cases hg
structure Emits (n k : Nat) (x : Ins) (f : Ft) (z : Bool × Bool × Ft) : Prop where
 hands : z7_ x k f = emitL x k z.1 z.2.1 z.2.2
 goes : z.1 = true → k + 1 < n
 targ : z.2.1 = true → 0 ≤ targV x ∧ targV x < n
 reached : z.2.2.reached = f.reached
theorem goesB_of {x : Ins} (h : oneE x = 0) : goesB x = (x.op != 1 && (x.op != 2 && x.op != 9)) := by unfold goesB; rw [h]; rfl
theorem targB_of {x : Ins} (h : oneE x = 0) : targB x = (x.op == 9 || (x.op == 10 || x.op == 11)) := by unfold targB; rw [h]; rfl
end Go.Proofs.Ytmljmabbopkpiaa
end
section
namespace Go.Proofs.Ytmljmabbopkpiaa.Vm
open Go.RowKit
def PickF (σ : Nat → Nat) (φ : Fr) : Fr → Prop
 | [] => True
 | p :: l => (∃ u, look φ p.1 = some u ∧ ∀ β, u.den β = (p.2.ren σ).den β) ∧ PickF σ φ l
theorem pickF_spec {σ : Nat → Nat} {φ : Fr} : ∀ {φ2 : Fr}, PickF σ φ φ2 → ∀ p ∈ φ2, ∃ u, look φ p.1 = some u ∧ ∀ β, u.den β = (p.2.ren σ).den β
 | [], _, p, hp => by cases hp
 | q :: l, h, p, hp => by
  rcases List.mem_cons.1 hp with rfl | hp
  ·exact h.1
  ·exact pickF_spec h.2 p hp
section
variable {w0 : World} {M : Nat → Prop} {E : Env} {n0 N : Nat} {D : List Deferred} {φ φ2 : Fr} {L L2 : List HB}
theorem St.pick {a : Act} {w : World} (l : List Nat) (h : St w0 M E n0 N D φ L a w) (h00 : l.getD 0 0 = 0) (hz : hp L2 0 = .gone) (hid : idTo n0 l = true) (hpk : PickL (sg l) (hp L) L2 l) (hinj : injL L2 l [] = true) (hs : yb_ (hp L2) L2) (hφ : PickF (sg l) φ φ2) (hf : StableF (hp L2) φ2) (hb : bornTo n0 L2 = true) : St w0 M E n0 N D φ2 L2 a w := by
 obtain ⟨⟨β, hE, R, F⟩, _, h3, h4⟩ := h
 refine ⟨⟨fun i => β (sg l i), fun i hi => ?_, R.pick h00 hz hpk hinj hs, fun t v hv => ?_⟩, fun i hi => ?_, h3, h4⟩
 ·exact d15_
 ·have hm := look_mem hv
  obtain ⟨u, h1, h2⟩ := pickF_spec hφ _ hm
  have hst := stableF_spec hf _ hm
  refine ⟨hst, ?_⟩
  rw [(F t u h1).2, h2]
  exact den_ren (h := hp L2) (fun _ _ => rfl) hst
 ·simp only [bornTo, List.all_eq_true] at hb
  exact hb i (List.mem_range.2 hi)
theorem At.nextPick {α : Type} {p : α → Prop} {φi : α → Fr} {Li : α → List HB} (l : List Nat) (y : α) (hy : p y) (h00 : l.getD 0 0 = 0) (hz : hp (Li y) 0 = .gone) (hid : idTo n0 l = true) (hpk : PickL (sg l) (hp L) (Li y) l) (hinj : injL (Li y) l [] = true) (hs : yb_ (hp (Li y)) (Li y)) (hφ : PickF (sg l) φ (φi y)) (hf : StableF (hp (Li y)) (φi y)) (hb : bornTo n0 (Li y) = true) : At w0 M E n0 N D φ L (fun a w => ∃ y, p y ∧ St w0 M E n0 N D (φi y) (Li y) a w) :=
 fun a w hS => ⟨y, hy, hS.pick l h00 hz hid hpk hinj hs hφ hf hb⟩
theorem At.pick {K : Act → World → Prop} (l : List Nat) (h00 : l.getD 0 0 = 0) (hz : hp L2 0 = .gone) (hid : idTo n0 l = true) (hpk : PickL (sg l) (hp L) L2 l) (hinj : injL L2 l [] = true) (hs : yb_ (hp L2) L2) (hφ : PickF (sg l) φ φ2) (hf : StableF (hp L2) φ2) (hb : bornTo n0 L2 = true) (h : At w0 M E n0 N D φ2 L2 K) : At w0 M E n0 N D φ L K :=
 fun a w hS => h a w (hS.pick l h00 hz hid hpk hinj hs hφ hf hb)
end
end Go.Proofs.Ytmljmabbopkpiaa.Vm
end
section
namespace Go.Proofs.Ytmljmabbopkpiaa.Vm
open Go.RowKit
section
variable {P : Program} {w0 w1 w2 : World} {M M1 M2 : Nat → Prop} {E : Env} {n0 N n : Nat} {D D1 D2 : List Deferred} {φ : Fr} {L : List HB} {Q : Exit → Act → World → Prop} {ro : Option Nat}
theorem WF.loopB {α : Type} (p : α → Prop) (φi : α → Fr) (Li : α → List HB) (μ : α → Nat) {c : Code} (x0 : α) (h0 : p x0)
  (hφ : SubF φ (φi x0)) (hL : LessL L (Li x0)) (hz : hp (Li x0) 0 = .gone) (hs : yb_ (hp (Li x0)) (Li x0)) (hf : StableF (hp (Li x0)) (φi x0)) (hb : bornTo n0 (Li x0) = true)
  (step : ∀ w1 M1 D1 x, Anc w0 M D w1 M1 D1 → p x → WF ro n P c w1 M1 E n0 N D1 (φi x) (Li x) (Exit.then (fun a w => ∃ w2 M2 D2 y, Anc w1 M1 D1 w2 M2 D2 ∧ p y ∧ μ y < μ x ∧ St w2 M2 E n0 N D2 (φi y) (Li y) a w) Q)) : WF ro n P (.loop c) w0 M E n0 N D φ L Q :=
 WF.sub hφ hL hz hs hf hb (WF.loop p φi Li μ x0 h0 step)
theorem At.nextB {α : Type} {p : α → Prop} {φi : α → Fr} {Li : α → List HB} {μ : α → Nat} {m : Nat} (A : Anc w1 M1 D1 w2 M2 D2) (l : List Nat) (y : α) (hy : p y ∧ μ y < m) (h00 : l.getD 0 0 = 0) (hz : hp (Li y) 0 = .gone) (hid : idTo n0 l = true) (hpk : PickL (sg l) (hp L) (Li y) l) (hinj : injL (Li y) l [] = true) (hs : yb_ (hp (Li y)) (Li y)) (hφ : PickF (sg l) φ (φi y)) (hf : StableF (hp (Li y)) (φi y)) (hb : bornTo n0 (Li y) = true) :
  At w2 M2 E n0 N D2 φ L (fun a w => ∃ w2 M2 D2 y, Anc w1 M1 D1 w2 M2 D2 ∧ p y ∧ μ y < m ∧ St w2 M2 E n0 N D2 (φi y) (Li y) a w) :=
 fun a w hS => ⟨w2, M2, D2, y, A, hy.1, hy.2, hS.pick l h00 hz hid hpk hinj hs hφ hf hb⟩
end
end Go.Proofs.Ytmljmabbopkpiaa.Vm
end

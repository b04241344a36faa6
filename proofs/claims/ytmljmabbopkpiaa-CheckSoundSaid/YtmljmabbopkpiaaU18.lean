import Derived.Test.YtmljmabbopkpiaaU1
import Derived.Test.YtmljmabbopkpiaaU17
set_option linter.unusedSimpArgs false
set_option linter.unusedVariables false
set_option maxRecDepth 100000
set_option maxHeartbeats 4000000
section
namespace Go.Proofs.Ytmljmabbopkpiaa.Vm
open Go.RowKit
attribute [local push_cast] eqB eqBL allB prS sndsS i64S nav_ins nav_ins0 nav_ins1 nav_ins2 nav_ins3 nav_ins4 nav_snd nav_snd0 nav_snd1 nav_snd2 isIns_insS ym_ isSnd_sndS sndOf_sndS isI_int isI_nat iOf sApply inR inN
def mdS_ (s : MS) (o p c z i : Nat) : SV := .agg [.arr 8 1 fun q => .int .i64 (s.regs q), .sl c c [] 1 0 s.cells.length none, .sl z i [] 1 0 o (some p), .int .i64 s.drawn]
def mdB (s : MS) (o p c z i : Nat) : HB := .own 91 (mdS_ s o p c z i) true
def mcB (s : MS) : HB := .own 2 (.arr s.cells.length 1 (i64S s.cells)) false
theorem mdS_eq (s : MS) (o p c z i : Nat) : mdS_ s o p c z i = .agg [.arr 8 1 fun q => .int .i64 (s.regs q), .sl c c [] 1 0 s.cells.length none, .sl z i [] 1 0 o (some p), .int .i64 s.drawn] := rfl
theorem mdB_eq (s : MS) (o p c z i : Nat) : mdB s o p c z i = .own 91 (mdS_ s o p c z i) true := rfl
theorem mcB_eq (s : MS) : mcB s = .own 2 (.arr s.cells.length 1 (i64S s.cells)) false := rfl
set_option linter.defProp false in
def JD := And.intro @mdS_eq (And.intro @mdB_eq @mcB_eq)
theorem mdS_ren (ρ : Nat → Nat) (s : MS) (o p c z i : Nat) : (mdS_ s o p c z i).ren ρ = mdS_ s o p (ρ c) (ρ z) (ρ i) := by simp only [mdS_, SV.ren, renL]
theorem mdB_ren (ρ : Nat → Nat) (s : MS) (o p c z i : Nat) : (mdB s o p c z i).ren ρ = mdB s o p (ρ c) (ρ z) (ρ i) := by simp only [mdB, HB.ren, mdS_ren]
theorem less_md {σ : Nat → Nat} {c z i c' z' i' o p : Nat} (s' : MS) (hc : σ c = c') (hz : σ z = z') (hi : σ i = i') {d : Int} {n1 : Nat} {rg : Nat → SV} (h3 : ∀ q, q < 8 → ∀ β, (rg q).cl β = [.int .i64 (s'.regs q)]) (h4 : n1 = s'.cells.length) (h5 : d = s'.drawn) :
  Less (.own 91 (.agg [.arr 8 1 rg, .sl c' c' [] 1 0 n1 none, .sl z' i' [] 1 0 o (some p), .int .i64 d]) true) ((mdB s' o p c z i).ren σ) := by
 subst h4 h5 hc hz hi
 rw [mdB_ren]
 refine .val (fun β => ?_) (fun n k f e => by cases e) (fun n k f e => by cases e)
 have h8 : (SV.arr 8 1 rg).cl β = (SV.arr 8 1 fun q => .int .i64 (s'.regs q)).cl β := arrCl fun q hq => by rw [h3 q hq β]; rfl
 simp only [mdS_, cl_agg, z1_, clL_nil, h8]
theorem less_set17 {t : Nat} {σ : Nat → Nat} (l : List Int) (r : Nat) (a : Int) {n : Nat} (hn : n = l.length) {g : Nat → SV} (hg : ∀ q, q < l.length → ∀ β, (g q).cl β = [.int .i64 (if q = r then a else l.getD q 0)]) : Less (.own t (.arr n 1 g) false) ((HB.own t (.arr (l.set r a).length 1 (i64S (l.set r a))) false).ren σ) := by
 subst hn
 have e : (l.set r a).length = l.length := by simp
 rw [e]
 refine .val (fun β => arrCl fun q hq => ?_) (fun n1 k1 f1 e => by injection e with e1 e2 e3; subst e1 e2; exact ⟨_, rfl⟩) (fun n1 k1 f1 e => by injection e with e1 e2 e3; subst e1 e2; exact ⟨_, rfl⟩)
 rw [hg q hq β]
 show _ = [Value.int .i64 ((l.set r a).getD q 0)]
 congr 2
 rw [List.getD_eq_getElem?_getD, List.getD_eq_getElem?_getD, List.getElem?_set]
 by_cases h : q = r
 ·subst h; simp [hq]
 ·rw [if_neg h, if_neg (fun e => h e.symm)]
def mdR (lp ll : Int) (o : List Int) (s : MS) (i : Ins) : MS := if mdE lp ll s i = true then mdS o s i else s
def mdT (lp ll : Int) (s : MS) (i : Ins) (k : Int) : Int := if mdE lp ll s i = true then mdN s i k else 0
def cMd : FuncId → Option Spec := look2 [(29, sApply)]
theorem z0_ : ∀ f S, cMd f = some S → zs_ Try.prog f S := allOk_spec ⟨sApply_ok, trivial⟩
structure MOk (s : MS) : Prop where
 rg : ∀ q, R64 (s.regs q)
 ce : ∀ q, R64 (s.cells.getD q 0)
 cl : s.cells.length ≤ 1000
 d0 : 0 ≤ s.drawn
 d1 : s.drawn ≤ 1000000
theorem MOk.put {s : MS} (K : MOk s) {a : Nat} {y : Int} (hy : R64 y) : MOk (s.put a y) :=
 ⟨fun q => by
  show R64 (if q = a then y else s.regs q)
  split
  ·exact hy
  ·exact K.rg q, K.ce, K.cl, K.d0, K.d1⟩
theorem mdS_ok {s : MS} {o : List Int} {x : Ins} (K : MOk s) (hx : x.ok) (hd : s.drawn < 1000000) : MOk (mdS o s x) := by
 obtain ⟨o0, o1, a0, a1, b0, b1, c0, c1, n0, n1⟩ := hx
 unfold mdS
 split
 ·exact K.put ⟨n0, n1⟩
 split
 ·exact K.put (K.rg _)
 split
 ·exact K.put (K.ce _)
 split
 ·refine ⟨K.rg, fun q => ?_, by simpa using K.cl, K.d0, K.d1⟩
  show R64 ((s.cells.set _ _).getD q 0)
  rw [List.getD_eq_getElem?_getD, List.getElem?_set]
  split
  ·split
   ·exact K.rg _
   ·exact zero_R
  ·rw [← List.getD_eq_getElem?_getD]; exact K.ce q
 split
 ·have P := K.put (a := x.a.toNat) (y := dvI o s.drawn (s.regs x.b.toNat)) (iwrapR _)
  exact ⟨P.rg, P.ce, P.cl, by show 0 ≤ s.drawn + 1; have := K.d0; omega, by show s.drawn + 1 ≤ 1000000; omega⟩
 split
 ·exact K.put (applyV_R _ _ _ (K.rg _) (K.rg _))
 ·exact K
theorem mdS_len {s : MS} {o : List Int} {x : Ins} : (mdS o s x).cells.length = s.cells.length := by
 unfold mdS
 repeat' split
 all_goals first | rfl | simp [MS.put]
theorem mdS_drawn {s : MS} {o : List Int} {x : Ins} : (mdS o s x).drawn ≤ s.drawn + 1 := by
 unfold mdS
 repeat' split
 all_goals first | (show s.drawn ≤ s.drawn + 1; omega) | (show s.drawn + 1 ≤ s.drawn + 1; omega)
theorem ls_getD17 {α : Type} {g : SV → α} {n q : Nat} {f : Nat → SV} {d : α} (h : q < n) : (ls g n f).getD q d = g (f q) := by
 simp [ls, h]
theorem tm8 {a : Int} (h0 : 0 ≤ a) (h8 : a < 8) : a.tmod 8 = a := Int.tmod_eq_of_lt h0 h8
theorem mdo_lit (s : MS) (o : List Int) (x : Ins) (at_ lc lp ll : Int) (p : Nat) (K : MOk s) (hx : x.ok) (ha : x.a < 8) (hb : x.b < 8) (hc : x.c < 8) (hk0 : 0 ≤ at_) (hk1 : at_ ≤ 1000000) (hl : lc = s.cells.length) (hlp : 0 ≤ lp ∧ lp ≤ 1000000) (hll : 0 ≤ ll ∧ ll ≤ 1000000) (ho : ∀ q, R64 (o.getD q 0)) (hol : o.length ≤ 9223372036854775807)
  (hcls : x.op = 1 ∨ x.op = 2 ∨ x.op = 3 ∨ x.op = 4 ∨ x.op = 5 ∨ x.op = 6 ∨ x.op = 7 ∨ x.op = 8 ∨ x.op = 9 ∨ x.op = 10 ∨ x.op = 11 ∨ (33 ≤ x.op ∧ x.op ≤ 49)) :
  LitOk Try.prog 37 [.ptr 1 [], insS x, .int .i64 at_, .agg [.int .i64 lc, .int .i64 lp, .int .i64 ll]] [.gone, mdB s o.length p 2 3 4, mcB s, .gone, .ro (.arr o.length 1 (i64S o))]
  (.tup [.int .i64 (mdT lp ll s x at_), .bool (mdE lp ll s x)]) [.gone, mdB (mdR lp ll o s x) o.length p 2 3 4, mcB (mdR lp ll o s x), .gone, .gone] := by
 obtain ⟨o0, o1, a0, a1, b0, b1, c0, c1, n0, n1⟩ := hx
 have hA := K.rg x.a.toNat
 have hB := K.rg x.b.toNat
 have hC := K.rg x.c.toNat
 have hcl := K.cl
 have hd0 := K.d0
 have hd1 := K.d1
 have ta := tm8 a0 ha
 have tb := tm8 b0 hb
 have tc := tm8 c0 hc
 obtain ⟨A, hqA⟩ : ∃ y, s.regs x.a.toNat = y := ⟨_, rfl⟩
 obtain ⟨B, hqB⟩ : ∃ y, s.regs x.b.toNat = y := ⟨_, rfl⟩
 obtain ⟨C, hqC⟩ : ∃ y, s.regs x.c.toNat = y := ⟨_, rfl⟩
 rw [hqA] at hA
 rw [hqB] at hB
 rw [hqC] at hC
 have hA0 := hA.1
 have hA1 := hA.2
 have hB0 := hB.1
 have hB1 := hB.2
 have hC0 := hC.1
 have hC1 := hC.2
 rcases hcls with q | q | q | q | q | q | q | q | q | q | q | q
 ·exact d21_
 ·exact d21_
 ·have hE : mdE lp ll s x = true := by simp [mdE, q, hqA, hqB, hqC]
  have hT : mdT lp ll s x at_ = at_ + 1 := by simp [mdT, hE, mdN, q, hqA, hqB, hqC]
  have hS : mdR lp ll o s x = s.put x.a.toNat x.n := by simp [mdR, hE, mdS, q, hqA, hqB, hqC]
  rw [hE, hT, hS]
  refine z3_ (fn := Try.f37) 5 200 0 rfl rfl rfl rfl rfl u3_ rfl fun w0 M E hro => ?_
  repeat' (first | refine Ctl.h ?_ | ((with_reducible intro hif); first | (focus (cases hif; done)) | ((try simp only [JH] at hif); try (exfalso; omega))) | ((with_reducible first | apply J22 z0_ za_ | apply J23 fol z0_ za_ | apply J24); (·rfl); (· exact k52_); (try kernel_rfl); try exact k9_) | fail)
  apply At.endsPick [0, 1, 2, 3, 4] za_ (fn := Try.f37) (rs := [.tmp 8, .tmp 9]) Anc.refl hro (lb_ rfl) rfl
  ·exact k49_
  ·exact k21_
  ·rfl
  ·rfl
  ·rfl
  ·exact k50_
  ·rfl
  ·exact k51_
  ·exact k8_
  ·exact fun β => rfl
  ·exact k51_
 ·have hE : mdE lp ll s x = true := by simp [mdE, q, hqA, hqB, hqC]
  have hT : mdT lp ll s x at_ = at_ + 1 := by simp [mdT, hE, mdN, q, hqA, hqB, hqC]
  have hS : mdR lp ll o s x = s.put x.a.toNat B := by simp [mdR, hE, mdS, q, hqA, hqB, hqC]
  rw [hE, hT, hS]
  refine z3_ (fn := Try.f37) 5 200 0 rfl rfl rfl rfl rfl u3_ rfl fun w0 M E hro => ?_
  repeat' (first | refine Ctl.h ?_ | ((with_reducible intro hif); first | (focus (cases hif; done)) | ((try simp only [JH] at hif); try (exfalso; omega))) | ((with_reducible first | apply J22 z0_ za_ | apply J23 fol z0_ za_ | apply J24); (·rfl); (· exact k52_); (try kernel_rfl); try exact k9_) | fail)
  apply At.endsPick [0, 1, 2, 3, 4] za_ (fn := Try.f37) (rs := [.tmp 8, .tmp 9]) Anc.refl hro (lb_ rfl) rfl
  ·exact k49_
  ·exact k21_
  ·rfl
  ·rfl
  ·rfl
  ·exact k50_
  ·rfl
  ·exact k51_
  ·exact k8_
  ·exact fun β => rfl
  ·exact k51_
 ·by_cases h1 : B < 0
  ·exact d22_
  ·by_cases h2 : (s.cells.length : Int) ≤ B
   ·exact d23_
   ·have hBn : B.toNat < s.cells.length := by omega
    have hE : mdE lp ll s x = true := by simp [mdE, q, hqA, hqB, hqC]; omega
    have hT : mdT lp ll s x at_ = at_ + 1 := by simp [mdT, hE, mdN, q, hqA, hqB, hqC, h1, h2]
    have hS : mdR lp ll o s x = s.put x.a.toNat (s.cells.getD B.toNat 0) := by simp [mdR, hE, mdS, q, hqA, hqB, hqC, h1, h2]
    rw [hE, hT, hS]
    refine z3_ (fn := Try.f37) 5 200 0 rfl rfl rfl rfl rfl u3_ rfl fun w0 M E hro => ?_
    repeat' (first | refine Ctl.h ?_ | ((with_reducible intro hif); first | (focus (cases hif; done)) | ((try simp only [JH] at hif); try (exfalso; omega))) | ((with_reducible first | apply J22 z0_ za_ | apply J23 fol z0_ za_ | apply J24); (·rfl); (· exact k54_); (try kernel_rfl); try exact k9_) | fail)
    apply At.endsPick [0, 1, 2, 3, 4] za_ (fn := Try.f37) (rs := [.tmp 8, .tmp 9]) Anc.refl hro (lb_ rfl) rfl
    ·exact k49_
    ·exact k21_
    ·rfl
    ·rfl
    ·rfl
    ·exact k50_
    ·rfl
    ·exact k51_
    ·exact k8_
    ·exact fun β => rfl
    ·exact k51_
 ·by_cases h1 : B < 0
  ·exact d22_
  ·by_cases h2 : (s.cells.length : Int) ≤ B
   ·exact d23_
   ·have hBn : B.toNat < s.cells.length := by omega
    have hE : mdE lp ll s x = true := by simp [mdE, q, hqA, hqB, hqC]; omega
    have hT : mdT lp ll s x at_ = at_ + 1 := by simp [mdT, hE, mdN, q, hqA, hqB, hqC, h1, h2]
    have hS : mdR lp ll o s x = { s with cells := s.cells.set B.toNat A } := by simp [mdR, hE, mdS, q, hqA, hqB, hqC, h1, h2]
    rw [hE, hT, hS]
    refine z3_ (fn := Try.f37) 5 200 0 rfl rfl rfl rfl rfl u3_ rfl fun w0 M E hro => ?_
    repeat' (first | refine Ctl.h ?_ | ((with_reducible intro hif); first | (focus (cases hif; done)) | ((try simp only [JH] at hif); try (exfalso; omega))) | ((with_reducible first | apply J22 z0_ za_ | apply J23 fol z0_ za_ | apply J24); (·rfl); (· exact k54_); (try kernel_rfl); try exact k9_) | fail)
    apply At.endsPick [0, 1, 2, 3, 4] za_ (fn := Try.f37) (rs := [.tmp 8, .tmp 9]) Anc.refl hro (lb_ rfl) rfl
    ·exact k49_
    ·exact k21_
    ·rfl
    ·rfl
    ·rfl
    ·exact k50_
    ·rfl
    ·exact k51_
    ·exact k8_
    ·exact fun β => rfl
    ·exact k51_
 ·by_cases h1 : B < 1
  ·exact d24_
  ·by_cases h2 : o.length = 0
   ·have hno : ¬ (0 < o.length) := by omega
    have hwB : IntKind.u64.wrap B = B := by simp [IntKind.wrap, IntKind.bits, IntKind.signed]; omega
    have hwz : IntKind.u64.wrap B ≠ 0 := by rw [hwB]; omega
    have hdv : dvI o s.drawn B = IntKind.i64.wrap ((IntKind.u64.wrap 0).tmod (IntKind.u64.wrap B)) := by unfold dvI; rw [if_pos h2]
    have hE : mdE lp ll s x = true := by simp [mdE, q, hqA, hqB, hqC]; omega
    have hT : mdT lp ll s x at_ = at_ + 1 := by simp [mdT, hE, mdN, q, hqA, hqB, hqC, h1, hno]
    have hS : mdR lp ll o s x = { s.put x.a.toNat (dvI o s.drawn B) with drawn := s.drawn + 1 } := by simp [mdR, hE, mdS, q, hqA, hqB, hqC, h1, hno]
    rw [hE, hT, hS, hdv]
    refine z3_ (fn := Try.f37) 5 200 0 rfl rfl rfl rfl rfl u3_ rfl fun w0 M E hro => ?_
    repeat' (first | refine Ctl.h ?_ | ((with_reducible intro hif); first | (focus (cases hif; done)) | ((try simp only [JH] at hif); try (exfalso; omega))) | ((with_reducible first | apply J22 z0_ za_ | apply J23 fol z0_ za_ | apply J24); (·rfl); (· (simp only [push_cast, ↓JP, Nat.reduceAdd, Nat.reduceEqDiff, Nat.reduceLT, Nat.reduceMul, Nat.reduceLeDiff, reduceCtorEq, reduceIte, ↓JK, JD, Bool.cond_decide, Int.add_zero, eq_self, cMd, q, ta, tb, tc, hqA, hqB, hqC, h1, hno]; rfl)); (try kernel_rfl); try exact k9_) | fail)
    apply At.endsPick [0, 1, 2, 3, 4] za_ (fn := Try.f37) (rs := [.tmp 8, .tmp 9]) Anc.refl hro (lb_ rfl) rfl
    ·exact k49_
    ·exact k21_
    ·rfl
    ·rfl
    ·rfl
    ·exact k50_
    ·rfl
    ·exact k51_
    ·exact k8_
    ·exact fun β => rfl
    ·exact k51_
   ·have hwz : IntKind.u64.wrap B ≠ 0 := by rw [show IntKind.u64.wrap B = B by simp [IntKind.wrap, IntKind.bits, IntKind.signed]; omega]; omega
    have hwB : IntKind.u64.wrap B = B := by simp [IntKind.wrap, IntKind.bits, IntKind.signed]; omega
    have hm0 := Int.tmod_nonneg (o.length : Int) hd0
    have hm1 := Int.tmod_lt_of_pos s.drawn (show (0 : Int) < o.length by omega)
    have hmn : (s.drawn.tmod o.length).toNat < o.length := by omega
    have hdv : dvI o s.drawn B = IntKind.i64.wrap ((IntKind.u64.wrap (o.getD (s.drawn.tmod o.length).toNat 0)).tmod (IntKind.u64.wrap B)) := by simp [dvI, h2]
    have hE : mdE lp ll s x = true := by simp [mdE, q, hqA, hqB, hqC]; omega
    have hT : mdT lp ll s x at_ = at_ + 1 := by simp [mdT, hE, mdN, q, hqA, hqB, hqC, h1, h2]
    have hS : mdR lp ll o s x = { s.put x.a.toNat (dvI o s.drawn B) with drawn := s.drawn + 1 } := by simp [mdR, hE, mdS, q, hqA, hqB, hqC, h1, h2]
    rw [hE, hT, hS, hdv]
    refine z3_ (fn := Try.f37) 5 200 0 rfl rfl rfl rfl rfl u3_ rfl fun w0 M E hro => ?_
    repeat' (first | refine Ctl.h ?_ | ((with_reducible intro hif); first | (focus (cases hif; done)) | ((try simp only [JH] at hif); try (exfalso; omega))) | ((with_reducible first | apply J22 z0_ za_ | apply J23 fol z0_ za_ | apply J24); (·rfl); (· exact k54_); (try kernel_rfl); try exact k9_) | fail)
    apply At.endsPick [0, 1, 2, 3, 4] za_ (fn := Try.f37) (rs := [.tmp 8, .tmp 9]) Anc.refl hro (lb_ rfl) rfl
    ·exact k49_
    ·exact k21_
    ·rfl
    ·rfl
    ·rfl
    ·exact k50_
    ·rfl
    ·exact k51_
    ·exact k8_
    ·exact fun β => rfl
    ·exact k51_
 ·by_cases h1 : lp ≤ x.n
  ·exact d24_
  ·by_cases h2 : A < ll
   ·have hE : mdE lp ll s x = false := by simp [mdE, q, hqA, hqB, hqC]; omega
    have hT : mdT lp ll s x at_ = 0 := by simp [mdT, hE]
    have hS : mdR lp ll o s x = s := by simp [mdR, hE]
    rw [hE, hT, hS]
    refine z3_ (fn := Try.f37) 5 200 0 rfl rfl rfl rfl rfl u3_ rfl fun w0 M E hro => ?_
    repeat' (first | refine Ctl.h ?_ | ((with_reducible intro hif); first | (focus (cases hif; done)) | ((try simp only [JH] at hif); try (exfalso; omega))) | ((with_reducible first | apply J22 z0_ za_ | apply J23 fol z0_ za_ | apply J24); (·rfl); (· exact k54_); (try kernel_rfl); try exact k9_) | fail)
    apply At.endsPick [0, 1, 2, 3, 4] za_ (fn := Try.f37) (rs := [.tmp 8, .tmp 9]) Anc.refl hro (lb_ rfl) rfl
    ·exact k49_
    ·exact k21_
    ·rfl
    ·rfl
    ·rfl
    ·exact k50_
    ·rfl
    ·exact k51_
    ·exact k8_
    ·exact fun β => rfl
    ·exact k51_
   ·have hE : mdE lp ll s x = true := by simp [mdE, q, hqA, hqB, hqC]; omega
    have hT : mdT lp ll s x at_ = at_ + 1 := by simp [mdT, hE, mdN, q, hqA, hqB, hqC, h1, h2]
    have hS : mdR lp ll o s x = s := by simp [mdR, hE, mdS, q, hqA, hqB, hqC, h1, h2]
    rw [hE, hT, hS]
    refine z3_ (fn := Try.f37) 5 200 0 rfl rfl rfl rfl rfl u3_ rfl fun w0 M E hro => ?_
    repeat' (first | refine Ctl.h ?_ | ((with_reducible intro hif); first | (focus (cases hif; done)) | ((try simp only [JH] at hif); try (exfalso; omega))) | ((with_reducible first | apply J22 z0_ za_ | apply J23 fol z0_ za_ | apply J24); (·rfl); (· exact k54_); (try kernel_rfl); try exact k9_) | fail)
    apply At.endsPick [0, 1, 2, 3, 4] za_ (fn := Try.f37) (rs := [.tmp 8, .tmp 9]) Anc.refl hro (lb_ rfl) rfl
    ·exact k49_
    ·exact k21_
    ·rfl
    ·rfl
    ·rfl
    ·exact k50_
    ·rfl
    ·exact k51_
    ·exact k8_
    ·exact fun β => rfl
    ·exact k51_
 ·have hE : mdE lp ll s x = true := by simp [mdE, q, hqA, hqB, hqC]
  have hT : mdT lp ll s x at_ = x.n := by simp [mdT, hE, mdN, q, hqA, hqB, hqC]
  have hS : mdR lp ll o s x = s := by simp [mdR, hE, mdS, q, hqA, hqB, hqC]
  rw [hE, hT, hS]
  refine z3_ (fn := Try.f37) 5 200 0 rfl rfl rfl rfl rfl u3_ rfl fun w0 M E hro => ?_
  repeat' (first | refine Ctl.h ?_ | ((with_reducible intro hif); first | (focus (cases hif; done)) | ((try simp only [JH] at hif); try (exfalso; omega))) | ((with_reducible first | apply J22 z0_ za_ | apply J23 fol z0_ za_ | apply J24); (·rfl); (· exact k52_); (try kernel_rfl); try exact k9_) | fail)
  apply At.endsPick [0, 1, 2, 3, 4] za_ (fn := Try.f37) (rs := [.tmp 8, .tmp 9]) Anc.refl hro (lb_ rfl) rfl
  ·exact k49_
  ·exact k21_
  ·rfl
  ·rfl
  ·rfl
  ·exact k50_
  ·rfl
  ·exact k51_
  ·exact k8_
  ·exact fun β => rfl
  ·exact k51_
 ·by_cases h1 : A = 0
  ·exact d25_
  ·exact d26_
 ·by_cases h1 : A < 0
  ·exact d25_
  ·exact d26_
 ·by_cases h1 : yn_ (x.op - 32) C = 0
  ·have n1 : ¬ x.op = 1 := by omega
   have n2 : ¬ x.op = 2 := by omega
   have n3 : ¬ x.op = 3 := by omega
   have n4 : ¬ x.op = 4 := by omega
   have n5 : ¬ x.op = 5 := by omega
   have n6 : ¬ x.op = 6 := by omega
   have n7 : ¬ x.op = 7 := by omega
   have n8 : ¬ x.op = 8 := by omega
   have n9 : ¬ x.op = 9 := by omega
   have n10 : ¬ x.op = 10 := by omega
   have n11 : ¬ x.op = 11 := by omega
   have n32 : ¬ x.op < 32 := by omega
   have m32 : 32 < x.op := by omega
   have hE : mdE lp ll s x = true := by simp [mdE, q, hqA, hqB, hqC, h1, n1, n2, n3, n4, n5, n6, n7, n8, n9, n10, n11, n32, m32]
   have hT : mdT lp ll s x at_ = at_ + 1 := by simp [mdT, hE, mdN, q, hqA, hqB, hqC, h1, n1, n2, n3, n4, n5, n6, n7, n8, n9, n10, n11, n32, m32]
   have hS : mdR lp ll o s x = s.put x.a.toNat (applyV (x.op - 32) B C) := by simp [mdR, hE, mdS, q, hqA, hqB, hqC, h1, n1, n2, n3, n4, n5, n6, n7, n8, n9, n10, n11, n32, m32]
   rw [hE, hT, hS]
   refine z3_ (fn := Try.f37) 5 200 0 rfl rfl rfl rfl rfl u3_ rfl fun w0 M E hro => ?_
   repeat' (first | refine Ctl.h ?_ | ((with_reducible intro hif); first | (focus (cases hif; done)) | ((try simp only [JH] at hif); try (exfalso; omega))) | ((with_reducible first | apply J22 z0_ za_ | apply J23 fol z0_ za_ | apply J24); (·rfl); (· exact k55_); (try kernel_rfl); try exact k9_) | fail)
   apply At.endsPick [0, 1, 2, 3, 4] za_ (fn := Try.f37) (rs := [.tmp 8, .tmp 9]) Anc.refl hro (lb_ rfl) rfl
   ·exact k49_
   ·exact k21_
   ·rfl
   ·rfl
   ·rfl
   ·exact k50_
   ·rfl
   ·exact k51_
   ·exact k8_
   ·exact fun β => rfl
   ·exact k51_
  ·have n1 : ¬ x.op = 1 := by omega
   have n2 : ¬ x.op = 2 := by omega
   have n3 : ¬ x.op = 3 := by omega
   have n4 : ¬ x.op = 4 := by omega
   have n5 : ¬ x.op = 5 := by omega
   have n6 : ¬ x.op = 6 := by omega
   have n7 : ¬ x.op = 7 := by omega
   have n8 : ¬ x.op = 8 := by omega
   have n9 : ¬ x.op = 9 := by omega
   have n10 : ¬ x.op = 10 := by omega
   have n11 : ¬ x.op = 11 := by omega
   have n32 : ¬ x.op < 32 := by omega
   have m32 : 32 < x.op := by omega
   have hE : mdE lp ll s x = false := by simp [mdE, q, hqA, hqB, hqC, h1, n1, n2, n3, n4, n5, n6, n7, n8, n9, n10, n11, n32, m32]
   have hT : mdT lp ll s x at_ = 0 := by simp [mdT, hE]
   have hS : mdR lp ll o s x = s := by simp [mdR, hE]
   rw [hE, hT, hS]
   refine z3_ (fn := Try.f37) 5 200 0 rfl rfl rfl rfl rfl u3_ rfl fun w0 M E hro => ?_
   repeat' (first | refine Ctl.h ?_ | ((with_reducible intro hif); first | (focus (cases hif; done)) | ((try simp only [JH] at hif); try (exfalso; omega))) | ((with_reducible first | apply J22 z0_ za_ | apply J23 fol z0_ za_ | apply J24); (·rfl); (· exact k55_); (try kernel_rfl); try exact k9_) | fail)
   apply At.endsPick [0, 1, 2, 3, 4] za_ (fn := Try.f37) (rs := [.tmp 8, .tmp 9]) Anc.refl hro (lb_ rfl) rfl
   ·exact k49_
   ·exact k21_
   ·rfl
   ·rfl
   ·rfl
   ·exact k50_
   ·rfl
   ·exact k51_
   ·exact k8_
   ·exact fun β => rfl
   ·exact k51_
end Go.Proofs.Ytmljmabbopkpiaa.Vm
end

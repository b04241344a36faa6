import Derived.Test.YtjliakjbdcplcaaGreatT5
import Derived.Test.YtjliakjbdcplcaaGreatT6
import Derived.Test.YtjliakjbdcplcaaGreatT8
import Derived.Test.YtjliakjbdcplcaaGreatT9
import Derived.Test.YtjliakjbdcplcaaGreatT13
set_option linter.unusedSimpArgs false
set_option linter.unusedVariables false
set_option maxRecDepth 100000
set_option maxHeartbeats 4000000
section
namespace Go.Proofs.YtjliakjbdcplcaaGreat.Vm
theorem u21_ {P : Prop} (h : P := by simp only [zd_, Stable, hp, i64S, prS, yo_, zn_, sndS, stS, evS, macS, mB, cB, sB, eB, prO, prR, pbB, fbB, rB, rvS, HB.stable]; simp [HB.born, rB, rvS, eB, mB, cB, sB, prO]) : P := h
theorem k151_ {P : Prop} (h : P := by (repeat' (first | exact trivial | exact rfl | assumption | apply Stable.ite | apply And.intro | intro _ | (simp only [Stable, zd_, i64S, prS, yo_, zn_, sndS, stS, evS, macS, mB, cB, sB, eB, prO, prR, pbB, fbB, rB, rvS, HB.stable]; done)))) : P := h
theorem k152_ {P : Prop} (h : P := by simp only [push_cast, ↓JP, Nat.reduceAdd, Nat.reduceEqDiff, Nat.reduceLT, Nat.reduceMul, Nat.reduceLeDiff, reduceCtorEq, reduceIte, ↓JK, noDefer, List.drop_zero, List.drop_succ_cons, cGo, JM, engP, prP, macP, yr_, memN, eB, prO, pbB, fbB, rB, rvS, JE, eEnded, eAt, eStep, xm_, inR, inN, hst]; rfl) : P := h
theorem k153_ {P : Prop} (h : P := by first | rfl | (simp only [push_cast, ↓JP, Nat.reduceAdd, Nat.reduceEqDiff, Nat.reduceLT, Nat.reduceMul, Nat.reduceLeDiff, reduceCtorEq, reduceIte, ↓JK, noDefer, List.drop_zero, List.drop_succ_cons, cGo, JM, engP, prP, macP, yr_, memN, eB, prO, pbB, fbB, rB, rvS, JE, eEnded, eAt, eStep, xm_, inR, inN, hst]; done)) : P := h
theorem k154_ {P : Prop} (h : P := by simp only [push_cast, ↓JP, Nat.reduceAdd, Nat.reduceEqDiff, Nat.reduceLT, Nat.reduceMul, Nat.reduceLeDiff, reduceCtorEq, reduceIte, ↓JK, noDefer, List.drop_zero, List.drop_succ_cons, cGo, JM, engP, prP, macP, yr_, memN, eB, prO, pbB, fbB, rB, rvS, JE, eEnded, eAt, eStep, xm_, inR, inN]; rfl) : P := h
theorem k155_ {P : Prop} (h : P := by first | rfl | (simp only [push_cast, ↓JP, Nat.reduceAdd, Nat.reduceEqDiff, Nat.reduceLT, Nat.reduceMul, Nat.reduceLeDiff, reduceCtorEq, reduceIte, ↓JK, noDefer, List.drop_zero, List.drop_succ_cons, cGo, JM, engP, prP, macP, yr_, memN, eB, prO, pbB, fbB, rB, rvS, JE, eEnded, eAt, eStep, xm_, inR, inN]; done)) : P := h
theorem k156_ {P : Prop} (h : P := by (repeat' (first | exact trivial | exact rfl | assumption | apply Stable.ite | apply And.intro | intro _ | (simp only [Stable, zd_, i64S, prS, yo_, zn_, sndS, stS, evS, macS, mB, cB, sB, eB, prO, prR, pbB, fbB, rB, rvS, clA, clB, clC, fsS, HB.stable]; done)))) : P := h
theorem k157_ {P : Prop} (h : P := by refine ⟨⟨by omega, fun q hq' => ?_⟩, by omega⟩; by_cases e : q = j; (rw [e]; exact hq); exact heq q (by omega)) : P := h
theorem k158_ {P : Prop} (h : P := by (simp only [push_cast, ↓JP, Nat.reduceAdd, Nat.reduceEqDiff, Nat.reduceLT, Nat.reduceMul, Nat.reduceLeDiff, reduceCtorEq, reduceIte, ↓JK, cGo, rB, rvS, rN, sRRight, sSteps, hrr]; rfl)) : P := h
theorem k159_ {P : Prop} (h : P := by (simp only [push_cast, ↓JP, Nat.reduceAdd, Nat.reduceEqDiff, Nat.reduceLT, Nat.reduceMul, Nat.reduceLeDiff, reduceCtorEq, reduceIte, ↓JK, engP, prP, macP, pbB, fbB]; rfl)) : P := h
theorem k160_ {P : Prop} (h : P := by (simp only [push_cast, ↓JP, Nat.reduceAdd, Nat.reduceEqDiff, Nat.reduceLT, Nat.reduceMul, Nat.reduceLeDiff, reduceCtorEq, reduceIte, ↓JK, cGo, engP, prP, macP, pbB, fbB, rB, rvS, eEnded, eAt, eStep, xm_, hst, hkf2]; rfl)) : P := h
theorem k161_ {P : Prop} (h : P := by (simp only [push_cast, ↓JP, Nat.reduceAdd, Nat.reduceEqDiff, Nat.reduceLT, Nat.reduceMul, Nat.reduceLeDiff, reduceCtorEq, reduceIte, ↓JK, cGo, engP, prP, macP, pbB, fbB, rB, rvS, eEnded, eAt, eStep, xm_, hst]; rfl)) : P := h
theorem k162_ {P : Prop} (h : P := by (simp only [push_cast, ↓JP, Nat.reduceAdd, Nat.reduceEqDiff, Nat.reduceLT, Nat.reduceMul, Nat.reduceLeDiff, reduceCtorEq, reduceIte, ↓JK, cGo, engP, prP, macP, pbB, fbB, rB, rvS, eEnded, eAt, eStep, xm_, hst, hn190]; rfl)) : P := h
theorem k163_ {P : Prop} (h : P := by (simp only [push_cast, ↓JP, Nat.reduceAdd, Nat.reduceEqDiff, Nat.reduceLT, Nat.reduceMul, Nat.reduceLeDiff, reduceCtorEq, reduceIte, ↓JK, cGo, engP, prP, macP, pbB, fbB, rB, rvS, eEnded, eAt, eStep, xm_, hkf2]; rfl)) : P := h
theorem k164_ {P : Prop} (h : P := by (simp only [push_cast, ↓JP, Nat.reduceAdd, Nat.reduceEqDiff, Nat.reduceLT, Nat.reduceMul, Nat.reduceLeDiff, reduceCtorEq, reduceIte, ↓JK, cGo, engP, prP, macP, pbB, fbB, rB, rvS, eEnded, eAt, eStep, xm_]; rfl)) : P := h
end Go.Proofs.YtjliakjbdcplcaaGreat.Vm
end
section
open Go.Proofs.YtjliakjbdcplcaaGreat.Vm Go.RowKit
attribute [local push_cast] prS zn_ i64S nav_ins xz_ xy_ xx_ xw_ xv_ nav_snd xu_ xt_ xs_ z4_ yh_ yn_ yg_ zw_ zy_ iOf
section
namespace Go.Proofs.YtjliakjbdcplcaaGreat.Vm
open Go.RowKit
theorem Trace_rej (P : List Ins) (v : Evi) (t s q o y d f : Int) (cs : List Int) (p1 p2 : Nat) (hok : ∀ x ∈ P, x.ok) (hn : P.length ≤ 1000000) (hc : cs.length ≤ 1000000) (hE : ropE P v (ys_ y t s cs d) f ≠ 0) : zo_ Tryz.prog 14 [.sl 1 2 [] 5 0 P.length (some p1), .agg [.int .u64 v.seed, .int .i64 v.process, .int .i64 v.ports, .int .i64 v.look, .int .i64 v.now], .agg [.agg [.int .i64 t, .int .i64 s, .int .i64 q], .int .i64 o, .int .i64 y], .sl 3 4 [] 1 0 cs.length (some p2), .int .i64 d, .int .i64 f]
  [.gone, .gone, .ro (.arr P.length 5 (prS P)), .gone, .ro (.arr cs.length 1 (i64S cs))]
  (.tup [.sl 0 0 [] 0 0 0 (some 0), .int .i64 (ropE P v (ys_ y t s cs d) f)]) [.gone, .gone, .gone, .gone, .gone, .own 3 (.arr 0 1 (i64S [])) false] := by
 obtain ⟨s0, hs0⟩ : ∃ s0, ys_ y t s cs d = s0 := ⟨_, rfl⟩
 rw [hs0] at hE ⊢
 refine ze_ (fn := Tryz.f14) 5 46 0 rfl rfl rfl rfl rfl u20_ rfl fun w0 M E hro => ?_
 refine WF.empty 3 1 (i64S []) (fun _ q => i64S_stable q) ?_
 repeat' (first | refine Ctl.h ?_ | ((with_reducible intro hif); first | (focus (cases hif; done)) | ((try simp only [JH] at hif); try (exfalso; omega))) | ((with_reducible first | apply J22 cRej_ok za_ | apply J23 fol cRej_ok za_ | apply J24); (·rfl); (· exact k145_); (try kernel_rfl); try exact k144_) | fail)
 apply At.endsPick [0, 1, 2, 3, 4, 5] za_ (fn := Tryz.f14) (rs := [.tmp 12, .tmp 13]) Anc.refl hro (lb_ rfl) rfl
 ·exact yi_
 ·exact xf_
 ·rfl
 ·rfl
 ·rfl
 ·exact k29_
 ·rfl
 ·exact k134_
 ·exact zs_
 ·exact fun β => rfl
 ·exact k134_
theorem Trace_lit (P : List Ins) (v : Evi) (t s q o y d f : Int) (cs : List Int) (p1 p2 : Nat) (hok : ∀ x ∈ P, x.ok) (hn : P.length ≤ 1000000) (hc : cs.length ≤ 1000000) : zo_ Tryz.prog 14 [.sl 1 2 [] 5 0 P.length (some p1), .agg [.int .u64 v.seed, .int .i64 v.process, .int .i64 v.ports, .int .i64 v.look, .int .i64 v.now], .agg [.agg [.int .i64 t, .int .i64 s, .int .i64 q], .int .i64 o, .int .i64 y], .sl 3 4 [] 1 0 cs.length (some p2), .int .i64 d, .int .i64 f]
  [.gone, .gone, .ro (.arr P.length 5 (prS P)), .gone, .ro (.arr cs.length 1 (i64S cs))]
  (.tup [nilOr (y9_ P v (ys_ y t s cs d) f).tr 5, .int .i64 (y9_ P v (ys_ y t s cs d) f).bad]) [.gone, .gone, .gone, .gone, .gone, .own 3 (.arr (y9_ P v (ys_ y t s cs d) f).tr.length 1 (i64S (y9_ P v (ys_ y t s cs d) f).tr)) false] := by
 by_cases hE : ropE P v (ys_ y t s cs d) f = 0
 ·have e : y9_ P v (ys_ y t s cs d) f = xj_ P v f.toNat (ys_ y t s cs d) Ins0 [] 0 := by unfold y9_; rw [if_pos hE]
  obtain ⟨hP, V⟩ := pg_of hok hE
  rw [e]
  exact Trace_go P v t s q o y d f cs p1 p2 hP V hc hE _ rfl
 ·have e : y9_ P v (ys_ y t s cs d) f = ⟨[], 0, ropE P v (ys_ y t s cs d) f, zeroSt, Ins0⟩ := by unfold y9_; rw [if_neg hE]
  rw [e]
  exact Trace_rej P v t s q o y d f cs p1 p2 hok hn hc hE
theorem TraceN_lit (P : List Ins) (v : Evi) (t s q o y d f : Int) (cs : List Int) (p1 p2 : Nat) (hok : ∀ x ∈ P, x.ok) (hn : P.length ≤ 1000000) (hc : cs.length ≤ 1000000) (hD : (y9_ P v (ys_ y t s cs d) f).tr.isEmpty = true) : zo_ Tryz.prog 14 [.sl 1 2 [] 5 0 P.length (some p1), .agg [.int .u64 v.seed, .int .i64 v.process, .int .i64 v.ports, .int .i64 v.look, .int .i64 v.now], .agg [.agg [.int .i64 t, .int .i64 s, .int .i64 q], .int .i64 o, .int .i64 y], .sl 3 4 [] 1 0 cs.length (some p2), .int .i64 d, .int .i64 f]
  [.gone, .gone, .ro (.arr P.length 5 (prS P)), .gone, .ro (.arr cs.length 1 (i64S cs))]
  (.tup [.sl 0 0 [] 0 0 0 (some 0), .int .i64 (y9_ P v (ys_ y t s cs d) f).bad]) [.gone] := by
 have H := Trace_lit P v t s q o y d f cs p1 p2 hok hn hc
 rw [nilOr_t hD] at H
 intro w0 M β w R
 refine (H w0 M β w R).mono fun e w' ⟨β', h1, h2, h3, h4⟩ => ⟨β', h1, h2.less (fun i => ?_) rfl (fun i => ?_), ⟨⟨rfl, rfl⟩, trivial, trivial⟩, h4⟩
 ·rcases i with _ | i
  ·exact .same _
  ·exact .dead _
 ·rcases i with _ | i <;> trivial
theorem TraceS_lit (P : List Ins) (v : Evi) (t s q o y d f : Int) (cs : List Int) (p1 p2 : Nat) (hok : ∀ x ∈ P, x.ok) (hn : P.length ≤ 1000000) (hc : cs.length ≤ 1000000) (hD : (y9_ P v (ys_ y t s cs d) f).tr.isEmpty = false) : zo_ Tryz.prog 14 [.sl 1 2 [] 5 0 P.length (some p1), .agg [.int .u64 v.seed, .int .i64 v.process, .int .i64 v.ports, .int .i64 v.look, .int .i64 v.now], .agg [.agg [.int .i64 t, .int .i64 s, .int .i64 q], .int .i64 o, .int .i64 y], .sl 3 4 [] 1 0 cs.length (some p2), .int .i64 d, .int .i64 f]
  [.gone, .gone, .ro (.arr P.length 5 (prS P)), .gone, .ro (.arr cs.length 1 (i64S cs))]
  (.tup [.sl 5 5 [] 1 0 (y9_ P v (ys_ y t s cs d) f).tr.length none, .int .i64 (y9_ P v (ys_ y t s cs d) f).bad]) [.gone, .gone, .gone, .gone, .gone, .own 3 (.arr (y9_ P v (ys_ y t s cs d) f).tr.length 1 (i64S (y9_ P v (ys_ y t s cs d) f).tr)) false] := by
 have H := Trace_lit P v t s q o y d f cs p1 p2 hok hn hc
 rwa [nilOr_f hD] at H
def sTrN : yq_ := fun args h m => match args with
 | [v1, .agg [v2, v3, v4, v5, v6], .agg [.agg [v7, v8, v9], v10, v11], v12, v13, v14] => match xa_ h 5 (.tup []) v1, xa_ h 1 (.tup []) v12 with
  | some (c1, n1, f1, r1), some (c12, n12, f12, r12) => bif isI .u64 v2 && isI .i64 v3 && isI .i64 v4 && isI .i64 v5 && isI .i64 v6 && isI .i64 v7 && isI .i64 v8 && isI .i64 v9 && isI .i64 v10 && isI .i64 v11 && isI .i64 v13 && isI .i64 v14 then some (c1 ∧ c12 ∧ (∀ q, q < n1 → isIns (f1 q) = true) ∧ (∀ q, q < n12 → isI .i64 (f12 q) = true) ∧ ((∀ x ∈ (ls zl_ n1 f1), x.ok)) ∧ (n1 ≤ 1000000) ∧ (n12 ≤ 1000000) ∧ ((y9_ (ls zl_ n1 f1) ⟨(iOf v2), (iOf v3), (iOf v4), (iOf v5), (iOf v6)⟩ (ys_ (iOf v11) (iOf v7) (iOf v8) (ls iOf n12 f12) (iOf v13)) (iOf v14)).tr.isEmpty = true), .tup [.sl 0 0 [] 0 0 0 (some 0), .int .i64 (y9_ (ls zl_ n1 f1) ⟨(iOf v2), (iOf v3), (iOf v4), (iOf v5), (iOf v6)⟩ (ys_ (iOf v11) (iOf v7) (iOf v8) (ls iOf n12 f12) (iOf v13)) (iOf v14)).bad], r1 ++ r12, []) else none
  | _, _ => none
 | _ => none
theorem sTrN_ok : zj_ Tryz.prog 14 sTrN := by
 refine ⟨zf_ (by kernel_rfl), fun args h m c v rd wr hs hm hc w0 M β h' w R hrd hwr hst => ?_⟩
 unfold sTrN at hs
 split at hs
 ·rename_i v1 v2 v3 v4 v5 v6 v7 v8 v9 v10 v11 v12 v13 v14
  split at hs
  ·rename_i c1 n1 f1 r1 c12 n12 f12 r12 a1 a12
   obtain ⟨hb, hs⟩ := zk_ hs
   simp only [Option.some.injEq, Prod.mk.injEq] at hs
   obtain ⟨rfl, rfl, rfl, rfl⟩ := hs
   simp only [Bool.and_eq_true] at hb
   obtain ⟨⟨⟨⟨⟨⟨⟨⟨⟨⟨⟨b2, b3⟩, b4⟩, b5⟩, b6⟩, b7⟩, b8⟩, b9⟩, b10⟩, b11⟩, b13⟩, b14⟩ := hb
   obtain ⟨k1, k12, g1, g12, y1, y2, y3, y4⟩ := hc
   obtain ⟨A1, p1, d1, e1, t1⟩ := zg_ R a1 k1 (fun i hi => hrd i (List.mem_append_left _ hi)) (by omega)
   obtain ⟨A12, p12, d12, e12, t12⟩ := zg_ R a12 k12 (fun i hi => hrd i (List.mem_append_right _ hi)) (by omega)
   refine yf_ (views := [⟨5, (ls zl_ n1 f1).length, prS (ls zl_ n1 f1), A1, p1⟩, ⟨1, (ls iOf n12 f12).length, i64S (ls iOf n12 f12), A12, p12⟩]) (TraceN_lit (ls zl_ n1 f1) ⟨(iOf v2), (iOf v3), (iOf v4), (iOf v5), (iOf v6)⟩ (iOf v7) (iOf v8) (iOf v9) (iOf v10) (iOf v11) (iOf v13) (iOf v14) (ls iOf n12 f12) p1 p12 y1 (by rw [zb_]; exact y2) (by rw [zb_]; exact y3) y4) ?_ R hm hwr ?_ ?_ ?_
   ·intro x hx
    simp only [List.mem_cons, List.not_mem_nil, or_false] at hx
    rcases hx with rfl | rfl
    ·exact xn_ t1 e1 g1
    ·exact z0_ t12 e12 g12
   ·intro β1 hv
    simp only [Vd, zb_, and_true] at hv
    obtain ⟨z1, z12⟩ := hv
    simp only [denL, z7_, z6_, z5_, zr_, zb_, z1, z12, d1, d12, zc_ b2, zc_ b3, zc_ b4, zc_ b5, zc_ b6, zc_ b7, zc_ b8, zc_ b9, zc_ b10, zc_ b11, zc_ b13, zc_ b14]
   ·exact k134_
   ·exact k134_
  ·cases hs
 ·cases hs
def sTrS : yq_ := fun args h m => match args with
 | [v1, .agg [v2, v3, v4, v5, v6], .agg [.agg [v7, v8, v9], v10, v11], v12, v13, v14] => match xa_ h 5 (.tup []) v1, xa_ h 1 (.tup []) v12 with
  | some (c1, n1, f1, r1), some (c12, n12, f12, r12) => bif isI .u64 v2 && isI .i64 v3 && isI .i64 v4 && isI .i64 v5 && isI .i64 v6 && isI .i64 v7 && isI .i64 v8 && isI .i64 v9 && isI .i64 v10 && isI .i64 v11 && isI .i64 v13 && isI .i64 v14 then some (c1 ∧ c12 ∧ (∀ q, q < n1 → isIns (f1 q) = true) ∧ (∀ q, q < n12 → isI .i64 (f12 q) = true) ∧ ((∀ x ∈ (ls zl_ n1 f1), x.ok)) ∧ (n1 ≤ 1000000) ∧ (n12 ≤ 1000000) ∧ ((y9_ (ls zl_ n1 f1) ⟨(iOf v2), (iOf v3), (iOf v4), (iOf v5), (iOf v6)⟩ (ys_ (iOf v11) (iOf v7) (iOf v8) (ls iOf n12 f12) (iOf v13)) (iOf v14)).tr.isEmpty = false), .tup [.sl m m [] 1 0 (y9_ (ls zl_ n1 f1) ⟨(iOf v2), (iOf v3), (iOf v4), (iOf v5), (iOf v6)⟩ (ys_ (iOf v11) (iOf v7) (iOf v8) (ls iOf n12 f12) (iOf v13)) (iOf v14)).tr.length none, .int .i64 (y9_ (ls zl_ n1 f1) ⟨(iOf v2), (iOf v3), (iOf v4), (iOf v5), (iOf v6)⟩ (ys_ (iOf v11) (iOf v7) (iOf v8) (ls iOf n12 f12) (iOf v13)) (iOf v14)).bad], r1 ++ r12, [(m, .own 3 (.arr (y9_ (ls zl_ n1 f1) ⟨(iOf v2), (iOf v3), (iOf v4), (iOf v5), (iOf v6)⟩ (ys_ (iOf v11) (iOf v7) (iOf v8) (ls iOf n12 f12) (iOf v13)) (iOf v14)).tr.length 1 (i64S (y9_ (ls zl_ n1 f1) ⟨(iOf v2), (iOf v3), (iOf v4), (iOf v5), (iOf v6)⟩ (ys_ (iOf v11) (iOf v7) (iOf v8) (ls iOf n12 f12) (iOf v13)) (iOf v14)).tr)) false)]) else none
  | _, _ => none
 | _ => none
theorem sTrS_ok : zj_ Tryz.prog 14 sTrS := by
 refine ⟨zf_ (by kernel_rfl), fun args h m c v rd wr hs hm hc w0 M β h' w R hrd hwr hst => ?_⟩
 unfold sTrS at hs
 split at hs
 ·rename_i v1 v2 v3 v4 v5 v6 v7 v8 v9 v10 v11 v12 v13 v14
  split at hs
  ·rename_i c1 n1 f1 r1 c12 n12 f12 r12 a1 a12
   obtain ⟨hb, hs⟩ := zk_ hs
   simp only [Option.some.injEq, Prod.mk.injEq] at hs
   obtain ⟨rfl, rfl, rfl, rfl⟩ := hs
   simp only [Bool.and_eq_true] at hb
   obtain ⟨⟨⟨⟨⟨⟨⟨⟨⟨⟨⟨b2, b3⟩, b4⟩, b5⟩, b6⟩, b7⟩, b8⟩, b9⟩, b10⟩, b11⟩, b13⟩, b14⟩ := hb
   obtain ⟨k1, k12, g1, g12, y1, y2, y3, y4⟩ := hc
   obtain ⟨A1, p1, d1, e1, t1⟩ := zg_ R a1 k1 (fun i hi => hrd i (List.mem_append_left _ hi)) (by omega)
   obtain ⟨A12, p12, d12, e12, t12⟩ := zg_ R a12 k12 (fun i hi => hrd i (List.mem_append_right _ hi)) (by omega)
   refine yf_ (views := [⟨5, (ls zl_ n1 f1).length, prS (ls zl_ n1 f1), A1, p1⟩, ⟨1, (ls iOf n12 f12).length, i64S (ls iOf n12 f12), A12, p12⟩]) (TraceS_lit (ls zl_ n1 f1) ⟨(iOf v2), (iOf v3), (iOf v4), (iOf v5), (iOf v6)⟩ (iOf v7) (iOf v8) (iOf v9) (iOf v10) (iOf v11) (iOf v13) (iOf v14) (ls iOf n12 f12) p1 p12 y1 (by rw [zb_]; exact y2) (by rw [zb_]; exact y3) y4) ?_ R hm hwr ?_ ?_ ?_
   ·intro x hx
    simp only [List.mem_cons, List.not_mem_nil, or_false] at hx
    rcases hx with rfl | rfl
    ·exact xn_ t1 e1 g1
    ·exact z0_ t12 e12 g12
   ·intro β1 hv
    simp only [Vd, zb_, and_true] at hv
    obtain ⟨z1, z12⟩ := hv
    simp only [denL, z7_, z6_, z5_, zr_, zb_, z1, z12, d1, d12, zc_ b2, zc_ b3, zc_ b4, zc_ b5, zc_ b6, zc_ b7, zc_ b8, zc_ b9, zc_ b10, zc_ b11, zc_ b13, zc_ b14]
   ·exact k134_
   ·exact k134_
  ·cases hs
 ·cases hs
def rvS (e a b c u : Nat) (w : Bool) : SV := .agg [.ptr e [], .fn 83 [.ptr a [], .ptr b [], .ptr c []], .nat .i64 u, .bool w]
def rB (e a b c u : Nat) (w : Bool) : HB := .own 52 (rvS e a b c u w) true
theorem rnone_lit (u : Nat) (w : Bool) : zo_ Tryz.prog 51 [.ptr 1 []] [.gone, rB 2 3 4 5 u w, .gone, .gone, .gone, .gone] (.bool false) [.gone, rB 2 3 4 5 u w, .gone, .gone, .gone, .gone] := by
 refine ze_ (fn := Tryz.f51) 6 12 0 rfl rfl rfl rfl rfl (by simp only [zd_, Stable, hp, i64S, prS, yo_, zn_, sndS, stS, evS, macS, mB, cB, sB, eB, prO, prR, pbB, fbB, rB, rvS, HB.stable]; simp [HB.born, rB, rvS]) rfl fun w0 M E hro => ?_
 repeat' (first | refine Ctl.h ?_ | ((with_reducible intro hif); first | (focus (cases hif; done)) | ((try simp only [JH] at hif); try (exfalso; omega))) | ((with_reducible first | apply J22 zq_ za_ | apply J23 fol zq_ za_ | apply J24); (·rfl); (· (simp only [push_cast, ↓JP, Nat.reduceAdd, Nat.reduceEqDiff, Nat.reduceLT, Nat.reduceMul, Nat.reduceLeDiff, reduceCtorEq, reduceIte, ↓JK, rB, rvS, inR, inN]; rfl)); (try kernel_rfl); try exact k25_) | fail)
 apply At.endsPick [0, 1, 2, 3, 4, 5] za_ (fn := Tryz.f51) (rs := [.tmp 2]) Anc.refl hro (lb_ rfl) rfl
 ·exact yi_
 ·exact xf_
 ·rfl
 ·rfl
 ·rfl
 ·exact k29_
 ·rfl
 ·exact k151_
 ·exact zs_
 ·exact fun β => rfl
 ·exact k151_
end Go.Proofs.YtjliakjbdcplcaaGreat.Vm
end
section
namespace Go.Proofs.YtjliakjbdcplcaaGreat.Vm
open Go.RowKit
attribute [local push_cast] prS zn_ i64S nav_ins xz_ xy_ xx_ xw_ xv_ nav_snd xu_ xt_ xs_ z4_ yh_ yn_ yg_ zw_ zy_ iOf JM eB prO JE inR inN yr_ memN
def rN : yq_ := fun args h m => match args with
 | [.ptr r []] => match h r with
  | .own t (.agg [.ptr e [], .fn fi [.ptr a [], .ptr b [], .ptr c []], .nat .i64 u, .bool w]) true => bif Nat.beq t 52 && Nat.beq fi 83 && yr_ [0, r, e, a, b, c] && ((h e).born && (h a).born && (h b).born && (h c).born) then some (True, .bool false, [r, e, a, b, c], [(r, rB e a b c u w)]) else none
  | _ => none
 | _ => none
theorem rB_ren (ρ : Nat → Nat) (e a b c u : Nat) (w : Bool) : (rB e a b c u w).ren ρ = rB (ρ e) (ρ a) (ρ b) (ρ c) u w := rfl
theorem rB_st {h : HM} {e a b c u : Nat} {w : Bool} (h1 : (h e).born = true) (h2 : (h a).born = true) (h3 : (h b).born = true) (h4 : (h c).born = true) : (rB e a b c u w).stable h := by
 simp [rB, rvS, HB.stable, Stable, zd_, h1, h2, h3, h4]
theorem bun_run {ρ : Nat → Nat} {h h' : HM} {r e a b c u e' a' b' c' : Nat} {w : Bool} (he : h r = rB e a b c u w) (ee : h' r = h r) (h1 : ρ e' = e) (h2 : ρ a' = a) (h3 : ρ b' = b) (h4 : ρ c' = c) : Bun1 ρ (h' r) (rB e' a' b' c' u w) := by
 show Less (h' r) (.own 52 ((rvS e' a' b' c' u w).ren ρ) true)
 rw [ee, he]
 simp only [rB, rvS, SV.ren, renL, h1, h2, h3, h4]
 exact .same _
theorem rN_ok : zj_ Tryz.prog 51 rN := by
 refine ⟨zf_ (by kernel_rfl), fun args h m c v rd wr hs hm hc w0 M β h' w R hrd hwr hst => ?_⟩
 unfold rN at hs
 split at hs
 ·rename_i r
  split at hs
  ·rename_i t e fi a b c u w hr
   obtain ⟨hb, hs⟩ := zk_ hs
   simp only [Option.some.injEq, Prod.mk.injEq] at hs
   obtain ⟨rfl, rfl, rfl, rfl⟩ := hs
   simp only [Bool.and_eq_true] at hb
   obtain ⟨⟨⟨b1, b2⟩, hnd⟩, ⟨⟨b3, b4⟩, b5⟩, b6⟩ := hb
   have b1 := Nat.eq_of_beq_eq_true b1
   have b2 := Nat.eq_of_beq_eq_true b2
   subst b1 b2
   exact bun_ok (h := h) (m := m) [0, r, e, a, b, c] (rnone_lit u w) R rfl (by simp) rfl rfl hnd
    ⟨Fit.gone (by rw [R.nil0]; rfl), bun_run hr (hrd r (by simp)) rfl rfl rfl rfl, Fit.gone (by rw [hrd e (by simp)]; exact b3), Fit.gone (by rw [hrd a (by simp)]; exact b4), Fit.gone (by rw [hrd b (by simp)]; exact b5), Fit.gone (by rw [hrd c (by simp)]; exact b6), trivial⟩ hm
    (fun p hp => by cases hp) (by simp) rfl
    ⟨trivial, rB_st rfl rfl rfl rfl, trivial, trivial, trivial, trivial, trivial⟩ ⟨rfl, trivial⟩
    ⟨trivial, rB_st rfl rfl rfl rfl, trivial, trivial, trivial, trivial, trivial⟩ trivial rfl rfl rfl
  ·cases hs
 ·cases hs
def cGo : FuncId → Option yq_ := y3_ [(51, rN), (52, sRRight), (49, sSteps), (89, eEnded), (90, eAt), (91, eStep), (50, xm_)]
theorem zu_ : ∀ f S, cGo f = some S → zj_ Tryz.prog f S := zp_ ⟨rN_ok, sRRight_ok, sSteps_ok, eEnded_ok, eAt_ok, eStep_ok, eState_ok, trivial⟩
theorem goF_lit (P : List Ins) (s : Sta) (v : Evi) (x0 : Ins) (u : Nat) (f : Int) (hP : PG P) (V : VOk v) (hG : SG P s) (hu : u ≤ 4611686018427387904) (hf0 : 0 ≤ f) (hf1 : f ≤ 4096) (r : RR) (hr : xj_ P v f.toNat s x0 [] 0 = r) : zo_ Tryz.prog 15 [.ptr 1 [], .int .i64 f] [.gone, rB 2 7 8 9 u false, eB 3 6 P.length, mB s v x0 4 5, cB s, sB s, prO P, .gone, .gone, .gone]
  (.tup [.bool (decide (r.bad = 0)), .int .i64 (if r.bad = 190 then 0 else r.bad)]) [.gone, rB 2 7 8 9 (u + r.tr.length) (decide (r.bad ≠ 0) && decide (r.bad ≠ 190)), eB 3 6 P.length, mB r.s v r.x 4 10, cB r.s, .gone, prO P, .gone, .gone, .gone, sB r.s] := by
 have hrr : rrE f = 0 := by unfold rrE; rw [if_neg (by omega)]
 refine ze_ (fn := Tryz.f15) 10 44 0 rfl rfl rfl rfl rfl u21_ rfl fun w0 M E hro => ?_
 repeat' (first | refine Ctl.h ?_ | ((with_reducible intro hif); first | (focus (cases hif; done)) | ((try simp only [JH] at hif); try (exfalso; omega))) | ((with_reducible first | apply J22 zu_ za_ | apply J23 fol zu_ za_ | apply J24); (·rfl); (· exact k158_); (try kernel_rfl); try exact yk_) | fail)
 with_reducible apply WF.range (fn' := Tryz.f88) 28
 ·exact k124_
 ·exact xf_
 ·rfl
 ·rfl
 ·rfl
 ·rfl
 ·rfl
 ·rfl
 ·rfl
 intro E1 rec tmps after hE1 hrec hcf haft
 repeat' (first | refine Ctl.h ?_ | ((with_reducible intro hif); first | (focus (cases hif; done)) | ((try simp only [JH] at hif); try (exfalso; omega))) | ((with_reducible first | apply J22 zu_ za_ | apply J23 fol zu_ za_ | apply J24); (·rfl); (· exact k159_); (try kernel_rfl); try exact yk_) | fail)
 refine At.pick (L2 := [.gone, rB 2 7 8 9 (u + 0) false, eB 3 6 P.length, mB s v x0 4 17, cB s, .gone, prO P, .gone, .gone, .gone, .own 48 (.ptr 1 []) true, .own 4 (.bool false) true, .own 43 (.nat .i64 0) true, pbB 2, fbB f, .raw (.deferred (some [])), .raw (.loop (rec .ready none)), sB s]) (φ2 := [(0, .yl 16), (1, .ptr 13 []), (2, .ptr 14 []), (4, .nat .i64 0)]) [0, 1, 2, 3, 4, 5, 6, 7, 8, 9, 10, 11, 12, 13, 14, 15, 16, 5] rfl rfl rfl ?_ rfl ?_ ?_ ?_ rfl ?_
 ·exact k29_
 ·exact k151_
 ·exact k16_
 ·exact k151_
 refine WF.loopAt (fun (z : RS) => RInv P v f r z) (fun (z : RS) => [(0, .yl 16), (1, .ptr 13 []), (2, .ptr 14 []), (4, .nat .i64 z.k)]) (fun (z : RS) => [.gone, rB 2 7 8 9 (u + z.k) false, eB 3 6 P.length, mB z.s v z.x 4 17, cB z.s, .gone, prO P, .gone, .gone, .gone, .own 48 (.ptr 1 []) true, .own 4 (.bool false) true, .own 43 (.nat .i64 0) true, pbB 2, fbB f, .raw (.deferred (some [])), .raw (.loop (rec .ready none)), sB z.s]) (fun (z : RS) => f.toNat - z.k) ⟨0, s, x0, [], 0⟩ ⟨Nat.zero_le _, hG, rfl, hr⟩ ?_ ?_ rfl ?_ ?_ rfl ?_
 ·exact k5_
 ·exact k6_
 ·exact k151_
 ·exact k151_
 rintro ⟨k, ⟨at1, en, rg, ce, dr, se⟩, x, tr, a⟩ ⟨hk, hg, hl, hr1⟩
 dsimp only at hk hg hl hr1 ⊢
 cases en
 ·by_cases hkf : k < f.toNat
  ·have hkf2 : (k : Int) < f := by omega
   have hn190 := stepE_ne190 P v ⟨at1, false, rg, ce, dr, se⟩
   have hl2 : (tr ++ [at1]).length = k + 1 := by simp [hl]
   by_cases hst : xg_ P v ⟨at1, false, rg, ce, dr, se⟩ = 0
   ·repeat' (first | refine Ctl.h ?_ | ((with_reducible intro hif); first | (focus (cases hif; done)) | ((try simp only [JH] at hif); try (exfalso; omega))) | ((with_reducible first | apply J22 zu_ za_ | apply J23 fol zu_ za_ | apply J24); (·rfl); (· exact k160_); (try kernel_rfl); try exact yk_) | fail)
    with_reducible apply WF.split 3 5
    ·rfl
    with_reducible apply At.run zu_ za_
    ·rfl
    ·rfl
    ·rfl
    ·exact k152_
    ·exact yw_
    with_reducible apply At.yield (gr := _)
    ·rfl
    ·rfl
    ·rfl
    ·rfl
    ·rfl
    ·rfl
    ·exact k152_
    ·exact k153_
    ·exact k152_
    ·exact yw_
    ·exact k152_
    ·exact yw_
    ·exact k153_
    ·exact hrec
    ·exact hcf
    ·rfl
    ·rfl
    ·rfl
    intro lb E2 next hE2 hnext
    repeat' (first | refine Ctl.h ?_ | ((with_reducible intro hif); first | (focus (cases hif; done)) | ((try simp only [JH] at hif); try (exfalso; omega))) | ((with_reducible first | apply J22 zu_ za_ | apply J23 fol zu_ za_ | apply J24); (·rfl); (· exact k161_); (try kernel_rfl); try exact yk_) | fail)
    with_reducible apply At.begins hrec
    ·rfl
    with_reducible refine At.code ?_
    repeat' (first | refine Ctl.h ?_ | ((with_reducible intro hif); first | (focus (cases hif; done)) | ((try simp only [JH] at hif); try (exfalso; omega))) | ((with_reducible first | apply J22 zu_ za_ | apply J23 fol zu_ za_ | apply J24); (·rfl); (· exact k161_); (try kernel_rfl); try exact yk_) | fail)
    with_reducible apply At.roundNormal
    ·exact k153_
    apply hnext
    with_reducible apply At.runEnd zu_ za_
    ·rfl
    ·rfl
    ·rfl
    ·exact k152_
    ·exact yw_
    repeat' (first | refine Ctl.h ?_ | ((with_reducible intro hif); first | (focus (cases hif; done)) | ((try simp only [JH] at hif); try (exfalso; omega))) | ((with_reducible first | apply J22 zu_ za_ | apply J23 fol zu_ za_ | apply J24); (·rfl); (· exact k161_); (try kernel_rfl); try exact yk_) | fail)
    refine At.nextPick [0, 1, 2, 3, 4, 5, 6, 7, 8, 9, 10, 11, 12, 13, 14, 15, 16, 18] ⟨k + 1, xp_ P v ⟨at1, false, rg, ce, dr, se⟩, stepX P ⟨at1, false, rg, ce, dr, se⟩ x, tr ++ [at1], at1⟩ ?_ rfl rfl rfl ?_ rfl ?_ ?_ ?_ rfl
    ·exact k135_
    ·exact k29_
    ·exact k151_
    ·exact k16_
    ·exact k151_
   ·rw [runA_bad rfl (by omega) hst] at hr1
    subst hr1
    have hb1 : decide (xg_ P v ⟨at1, false, rg, ce, dr, se⟩ = 0) = false := by simp [hst]
    have hb2 : (if xg_ P v ⟨at1, false, rg, ce, dr, se⟩ = 190 then 0 else xg_ P v ⟨at1, false, rg, ce, dr, se⟩) = xg_ P v ⟨at1, false, rg, ce, dr, se⟩ := if_neg hn190
    have hb3 : (decide (xg_ P v ⟨at1, false, rg, ce, dr, se⟩ ≠ 0) && decide (xg_ P v ⟨at1, false, rg, ce, dr, se⟩ ≠ 190)) = true := by simp [hst, hn190]
    repeat' (first | refine Ctl.h ?_ | ((with_reducible intro hif); first | (focus (cases hif; done)) | ((try simp only [JH] at hif); try (exfalso; omega))) | ((with_reducible first | apply J22 zu_ za_ | apply J23 fol zu_ za_ | apply J24); (·rfl); (· exact k160_); (try kernel_rfl); try exact yk_) | fail)
    with_reducible apply WF.split 3 5
    ·rfl
    with_reducible apply At.run zu_ za_
    ·rfl
    ·rfl
    ·rfl
    ·exact k152_
    ·exact yw_
    with_reducible apply At.yield (gr := _)
    ·rfl
    ·rfl
    ·rfl
    ·rfl
    ·rfl
    ·rfl
    ·exact k152_
    ·exact k153_
    ·exact k152_
    ·exact yw_
    ·exact k152_
    ·exact yw_
    ·exact k153_
    ·exact hrec
    ·exact hcf
    ·rfl
    ·rfl
    ·rfl
    intro lb E2 next hE2 hnext
    repeat' (first | refine Ctl.h ?_ | ((with_reducible intro hif); first | (focus (cases hif; done)) | ((try simp only [JH] at hif); try (exfalso; omega))) | ((with_reducible first | apply J22 zu_ za_ | apply J23 fol zu_ za_ | apply J24); (·rfl); (· exact k161_); (try kernel_rfl); try exact yk_) | fail)
    with_reducible apply At.begins hrec
    ·rfl
    with_reducible refine At.code ?_
    repeat' (first | refine Ctl.h ?_ | ((with_reducible intro hif); first | (focus (cases hif; done)) | ((try simp only [JH] at hif); try (exfalso; omega))) | ((with_reducible first | apply J22 zu_ za_ | apply J23 fol zu_ za_ | apply J24); (·rfl); (· exact k162_); (try kernel_rfl); try exact yk_) | fail)
    with_reducible apply At.roundRet
    ·exact k153_
    apply hnext
    with_reducible apply At.runEnd zu_ za_
    ·rfl
    ·rfl
    ·rfl
    ·exact k152_
    ·exact yw_
    repeat' (first | refine Ctl.h ?_ | ((with_reducible intro hif); first | (focus (cases hif; done)) | ((try simp only [JH] at hif); try (exfalso; omega))) | ((with_reducible first | apply J22 zu_ za_ | apply J23 fol zu_ za_ | apply J24); (·rfl); (· exact k161_); (try kernel_rfl); try exact yk_) | fail)
    with_reducible apply At.itRet .done
    ·rfl
    ·rfl
    ·intro h; cases h
    apply haft
    intro w1 M1 D1 hA
    dsimp only
    rw [hb1, hb2]
    try rw [hl2]
    try rw [hb3]
    repeat' (first | refine Ctl.h ?_ | ((with_reducible intro hif); first | (focus (cases hif; done)) | ((try simp only [JH] at hif); try (exfalso; omega))) | ((with_reducible first | apply J22 zu_ za_ | apply J23 fol zu_ za_ | apply J24); (·rfl); (· exact k161_); (try kernel_rfl); try exact yk_) | fail)
    apply At.endsPick [0, 1, 2, 3, 4, 5, 6, 7, 8, 9, 18] za_ (fn := Tryz.f15) (rs := [.cell 4 4, .cell 5 43]) hA hro (lb_ rfl) rfl
    ·exact yi_
    ·exact xf_
    ·rfl
    ·rfl
    ·rfl
    ·exact k29_
    ·rfl
    ·exact k151_
    ·exact zs_
    ·exact fun β => rfl
    ·exact k151_
  ·have e0 : f.toNat - k = 0 := by omega
   have hkf2 : ¬ (k : Int) < f := by omega
   rw [e0, xr_ rfl] at hr1
   subst hr1
   repeat' (first | refine Ctl.h ?_ | ((with_reducible intro hif); first | (focus (cases hif; done)) | ((try simp only [JH] at hif); try (exfalso; omega))) | ((with_reducible first | apply J22 zu_ za_ | apply J23 fol zu_ za_ | apply J24); (·rfl); (· exact k163_); (try kernel_rfl); try exact yk_) | fail)
   with_reducible apply WF.split 3 5
   ·rfl
   with_reducible apply At.run zu_ za_
   ·rfl
   ·rfl
   ·rfl
   ·exact k154_
   ·exact yw_
   with_reducible apply At.yield (gr := _)
   ·rfl
   ·rfl
   ·rfl
   ·rfl
   ·rfl
   ·rfl
   ·exact k154_
   ·exact k155_
   ·exact k154_
   ·exact yw_
   ·exact k154_
   ·exact yw_
   ·exact k155_
   ·exact hrec
   ·exact hcf
   ·rfl
   ·rfl
   ·rfl
   intro lb E2 next hE2 hnext
   repeat' (first | refine Ctl.h ?_ | ((with_reducible intro hif); first | (focus (cases hif; done)) | ((try simp only [JH] at hif); try (exfalso; omega))) | ((with_reducible first | apply J22 zu_ za_ | apply J23 fol zu_ za_ | apply J24); (·rfl); (· exact k164_); (try kernel_rfl); try exact yk_) | fail)
   with_reducible apply At.begins hrec
   ·rfl
   with_reducible refine At.code ?_
   repeat' (first | refine Ctl.h ?_ | ((with_reducible intro hif); first | (focus (cases hif; done)) | ((try simp only [JH] at hif); try (exfalso; omega))) | ((with_reducible first | apply J22 zu_ za_ | apply J23 fol zu_ za_ | apply J24); (·rfl); (· exact k164_); (try kernel_rfl); try exact yk_) | fail)
   with_reducible apply At.roundRet
   ·exact k155_
   apply hnext
   with_reducible apply At.runEnd zu_ za_
   ·rfl
   ·rfl
   ·rfl
   ·exact k154_
   ·exact yw_
   repeat' (first | refine Ctl.h ?_ | ((with_reducible intro hif); first | (focus (cases hif; done)) | ((try simp only [JH] at hif); try (exfalso; omega))) | ((with_reducible first | apply J22 zu_ za_ | apply J23 fol zu_ za_ | apply J24); (·rfl); (· exact k164_); (try kernel_rfl); try exact yk_) | fail)
   with_reducible apply At.itRet .done
   ·rfl
   ·rfl
   ·intro h; cases h
   apply haft
   intro w1 M1 D1 hA
   dsimp only
   try rw [hl]
   repeat' (first | refine Ctl.h ?_ | ((with_reducible intro hif); first | (focus (cases hif; done)) | ((try simp only [JH] at hif); try (exfalso; omega))) | ((with_reducible first | apply J22 zu_ za_ | apply J23 fol zu_ za_ | apply J24); (·rfl); (· exact k164_); (try kernel_rfl); try exact yk_) | fail)
   apply At.endsPick [0, 1, 2, 3, 4, 5, 6, 7, 8, 9, 17] za_ (fn := Tryz.f15) (rs := [.cell 4 4, .cell 5 43]) hA hro (lb_ rfl) rfl
   ·exact yi_
   ·exact xf_
   ·rfl
   ·rfl
   ·rfl
   ·exact k29_
   ·rfl
   ·exact k151_
   ·exact zs_
   ·exact fun β => rfl
   ·exact k151_
 ·rw [xk_ rfl] at hr1
  subst hr1
  repeat' (first | refine Ctl.h ?_ | ((with_reducible intro hif); first | (focus (cases hif; done)) | ((try simp only [JH] at hif); try (exfalso; omega))) | ((with_reducible first | apply J22 zu_ za_ | apply J23 fol zu_ za_ | apply J24); (·rfl); (· exact k164_); (try kernel_rfl); try exact yk_) | fail)
  with_reducible apply At.itNormal .ready
  ·rfl
  ·rfl
  ·intro h; cases h
  apply haft
  intro w1 M1 D1 hA
  dsimp only
  try rw [hl]
  repeat' (first | refine Ctl.h ?_ | ((with_reducible intro hif); first | (focus (cases hif; done)) | ((try simp only [JH] at hif); try (exfalso; omega))) | ((with_reducible first | apply J22 zu_ za_ | apply J23 fol zu_ za_ | apply J24); (·rfl); (· exact k164_); (try kernel_rfl); try exact yk_) | fail)
  apply At.endsPick [0, 1, 2, 3, 4, 5, 6, 7, 8, 9, 17] za_ (fn := Tryz.f15) (rs := [.cell 4 4, .cell 5 43]) hA hro (lb_ rfl) rfl
  ·exact yi_
  ·exact xf_
  ·rfl
  ·rfl
  ·rfl
  ·exact k29_
  ·rfl
  ·exact k151_
  ·exact zs_
  ·exact fun β => rfl
  ·exact k151_
end Go.Proofs.YtjliakjbdcplcaaGreat.Vm
end
section
namespace Go.Proofs.YtjliakjbdcplcaaGreat.Vm
open Go.RowKit
def cRu : FuncId → Option yq_ := y3_ [(51, rN), (52, sRRight), (50, xm_)]
theorem cRu_ok : ∀ f S, cRu f = some S → zj_ Tryz.prog f S := zp_ ⟨rN_ok, sRRight_ok, eState_ok, trivial⟩
theorem used_lit (u : Nat) (w : Bool) : zo_ Tryz.prog 19 [.ptr 1 []] [.gone, rB 2 3 4 5 u w, .gone, .gone, .gone, .gone] (.nat .i64 u) [.gone, rB 2 3 4 5 u w, .gone, .gone, .gone, .gone] := by
 refine ze_ (fn := Tryz.f19) 6 9 0 rfl rfl rfl rfl rfl (by simp only [zd_, Stable, hp, i64S, prS, yo_, zn_, sndS, stS, evS, macS, mB, cB, sB, eB, prO, prR, pbB, fbB, rB, rvS, HB.stable]; simp [HB.born, rB, rvS]) rfl fun w0 M E hro => ?_
 repeat' (first | refine Ctl.h ?_ | ((with_reducible intro hif); first | (focus (cases hif; done)) | ((try simp only [JH] at hif); try (exfalso; omega))) | ((with_reducible first | apply J22 cRu_ok za_ | apply J23 fol cRu_ok za_ | apply J24); (·rfl); (· (simp only [push_cast, ↓JP, Nat.reduceAdd, Nat.reduceEqDiff, Nat.reduceLT, Nat.reduceMul, Nat.reduceLeDiff, reduceCtorEq, reduceIte, ↓JK, cRu, rB, rvS, rN, yr_, memN, inR, inN]; rfl)); (try kernel_rfl); try exact k25_) | fail)
 apply At.endsPick [0, 1, 2, 3, 4, 5] za_ (fn := Tryz.f19) (rs := [.tmp 2]) Anc.refl hro (lb_ rfl) rfl
 ·exact yi_
 ·exact xf_
 ·rfl
 ·rfl
 ·rfl
 ·exact k29_
 ·rfl
 ·exact k151_
 ·exact zs_
 ·exact fun β => rfl
 ·exact k151_
theorem rstate_lit (P : List Ins) (s : Sta) (v : Evi) (x : Ins) (u : Nat) (w : Bool) (hc : s.cells.length ≤ 1000000) (hs : s.sends.length ≤ 1000000) : zo_ Tryz.prog 18 [.ptr 1 []] [.gone, rB 2 7 8 9 u w, eB 3 6 P.length, mB s v x 4 5, cB s, sB s, prO P, .gone, .gone, .gone] (stS s 10 11) [.gone, rB 2 7 8 9 u w, eB 3 6 P.length, mB s v x 4 5, cB s, sB s, prO P, .gone, .gone, .gone, cB s, sB s] := by
 refine ze_ (fn := Tryz.f18) 10 11 0 rfl rfl rfl rfl rfl u21_ rfl fun w0 M E hro => ?_
 repeat' (first | refine Ctl.h ?_ | ((with_reducible intro hif); first | (focus (cases hif; done)) | ((try simp only [JH] at hif); try (exfalso; omega))) | ((with_reducible first | apply J22 cRu_ok za_ | apply J23 fol cRu_ok za_ | apply J24); (·rfl); (· (simp only [push_cast, ↓JP, Nat.reduceAdd, Nat.reduceEqDiff, Nat.reduceLT, Nat.reduceMul, Nat.reduceLeDiff, reduceCtorEq, reduceIte, ↓JK, cRu, JM, JE, rB, rvS, eB, prO, rN, engP, prP, macP, xm_, yr_, memN, inR, inN]; rfl)); (try kernel_rfl); try exact k25_) | fail)
 apply At.endsPick [0, 1, 2, 3, 4, 5, 6, 7, 8, 9, 11, 12] za_ (fn := Tryz.f18) (rs := [.cell 2 60]) Anc.refl hro (lb_ rfl) rfl
 ·exact yi_
 ·exact xf_
 ·rfl
 ·rfl
 ·rfl
 ·exact k29_
 ·rfl
 ·exact k151_
 ·exact zs_
 ·exact fun β => rfl
 ·exact k151_
end Go.Proofs.YtjliakjbdcplcaaGreat.Vm
end
section
namespace Go.Proofs.YtjliakjbdcplcaaGreat.Vm
open Go.RowKit
def fsS (s : Sta) (j : Nat) : SV := .agg [.int .i64 s.at_, .bool s.ended, .arr 8 1 (fun q => .int .i64 (s.regs q)), .sl j j [] 1 0 s.cells.length none, .int .i64 s.draws, .sl 0 0 [] 0 0 0 (some 0)]
def clA (i n : Nat) : HB := .own 22 (.sl i i [] 5 0 n none) true
def clB (v : Evi) : HB := .own 25 (evS v) true
def clC (s : Sta) (j : Nat) : HB := .own 60 (fsS s j) true
def cB4 : FuncId → Option yq_ := y3_ [(84, sOnG)]
theorem cB4_ok : ∀ f S, cB4 f = some S → zj_ Tryz.prog f S := zp_ ⟨sOnG_ok, trivial⟩
theorem beg_good (P : List Ins) (v : Evi) (s : Sta) (hs : s.sends = []) (hP : ∀ x ∈ P, x.ok) (hn : P.length ≤ 1000000) (hc : s.cells.length ≤ 1000000) (hE : yt_ P v s = 0) : zo_ Tryz.prog 83 [.ptr 1 [], .ptr 2 [], .ptr 3 []] [.gone, .ro (.sl 4 4 [] 5 0 P.length none), .ro (evS v), .ro (fsS s 5), prR P, .ro (.arr s.cells.length 1 (i64S s.cells))]
  (.tup [.ptr 6 [], .int .i64 0]) [.gone, .gone, .gone, .gone, .gone, .gone, eB 7 10 P.length, mB s v Ins0 8 9, cB s, sB s, prO P] := by
 obtain ⟨a0, e0, rg, cs, d, n0⟩ := s
 dsimp only at hs hc
 subst hs
 refine ze_ (fn := Tryz.f83) 6 11 0 rfl rfl rfl rfl rfl (by simp only [zd_, Stable, hp, i64S, prS, yo_, zn_, sndS, stS, evS, macS, mB, cB, sB, eB, prO, prR, pbB, fbB, rB, rvS, clA, clB, clC, fsS, HB.stable]; simp [HB.born]) rfl fun w0 M E hro => ?_
 repeat' (first | refine Ctl.h ?_ | ((with_reducible intro hif); first | (focus (cases hif; done)) | ((try simp only [JH] at hif); try (exfalso; omega))) | ((with_reducible first | apply J22 cB4_ok za_ | apply J23 fol cB4_ok za_ | apply J24); (·rfl); (· (simp only [push_cast, ↓JP, Nat.reduceAdd, Nat.reduceEqDiff, Nat.reduceLT, Nat.reduceMul, Nat.reduceLeDiff, reduceCtorEq, reduceIte, ↓JK, JM, JE, JB, cB4, fsS, prR, sOnG, inR, inN, hE]; rfl)); (try kernel_rfl); (try (focus (first | exact True.intro | ((try simp only [JS, implies_true, forall_const, z9_, z2_, kndOf, inR, inN]); (first | first | omega | exact ⟨hP, hn, hc⟩ | (repeat' (first | assumption | exact True.intro | omega | apply And.intro))); done))))) | fail)
 apply At.endsPick [0, 1, 2, 3, 4, 5, 6, 7, 8, 9, 10] za_ (fn := Tryz.f83) (rs := [.tmp 3, .tmp 4]) Anc.refl hro (lb_ rfl) rfl
 ·exact yi_
 ·exact xf_
 ·rfl
 ·rfl
 ·rfl
 ·exact k29_
 ·rfl
 ·exact k156_
 ·exact zs_
 ·exact fun β => rfl
 ·exact k156_
def clP (h : HM) (a b c : Nat) : Option (List Ins × Evi × Sta × Nat × Nat × Prop) := match h a with
 | .own ta (.sl z i [] 5 0 n none) true => match h b with
  | .own tb (.agg [.int .u64 e0, .int .i64 e1, .int .i64 e2, .int .i64 e3, .int .i64 e4]) true => match h c with
   | .own tc (.agg [.int .i64 s0, .bool s1, .arr 8 1 rg, .sl z2 j [] 1 0 nc none, .int .i64 s4, .sl 0 0 [] 0 0 0 (some 0)]) true => match prP h i, h j with
    | some (n', P, ok2), .own tj (.arr nj 1 cf) false => bif Nat.beq z i && Nat.beq n n' && Nat.beq z2 j && Nat.beq nc nj && Nat.beq ta 22 && Nat.beq tb 25 && Nat.beq tc 60 && Nat.beq tj 2 then
      some (P, ⟨e0, e1, e2, e3, e4⟩, ⟨s0, s1, fun q => iOf (rg q), ls iOf nj cf, s4, []⟩, i, j, ok2 ∧ (∀ q, q < 8 → isI .i64 (rg q) = true) ∧ ∀ q, q < nj → isI .i64 (cf q) = true) else none
    | _, _ => none
   | _ => none
  | _ => none
 | _ => none
section
variable {ρ : Nat → Nat} {h h' : HM} {a b c i j x y : Nat} {s : Sta} {v : Evi} {P : List Ins} {ok : Prop}
theorem clP_val (hp : clP h a b c = some (P, v, s, i, j, ok)) : s.sends = [] ∧ ∃ ok2 rg cf, ok = (ok2 ∧ (∀ q, q < 8 → isI .i64 (rg q) = true) ∧ ∀ q, q < s.cells.length → isI .i64 (cf q) = true) ∧ prP h i = some (P.length, P, ok2) ∧ h a = clA i P.length ∧ h b = clB v ∧ h c = .own 60 (.agg [.int .i64 s.at_, .bool s.ended, .arr 8 1 rg, .sl j j [] 1 0 s.cells.length none, .int .i64 s.draws, .sl 0 0 [] 0 0 0 (some 0)]) true ∧ h j = .own 2 (.arr s.cells.length 1 cf) false ∧ (∀ q, s.regs q = iOf (rg q)) ∧ s.cells = ls iOf s.cells.length cf := by
 unfold clP at hp
 split at hp
 ·rename_i ta z i n ha
  split at hp
  ·rename_i tb e0 e1 e2 e3 e4 hb
   split at hp
   ·rename_i tc s0 s1 rg z2 j nc s4 hc
    split at hp
    ·rename_i n' P ok2 tj nj cf hpp hj
     obtain ⟨hbb, hs⟩ := zk_ hp
     simp only [Option.some.injEq, Prod.mk.injEq] at hs
     obtain ⟨rfl, rfl, rfl, rfl, rfl, rfl⟩ := hs
     simp only [Bool.and_eq_true] at hbb
     obtain ⟨⟨⟨⟨⟨⟨⟨b1, b2⟩, b3⟩, b4⟩, b5⟩, b6⟩, b7⟩, b8⟩ := hbb
     have b1 := Nat.eq_of_beq_eq_true b1
     have b2 := Nat.eq_of_beq_eq_true b2
     have b3 := Nat.eq_of_beq_eq_true b3
     have b4 := Nat.eq_of_beq_eq_true b4
     have b5 := Nat.eq_of_beq_eq_true b5
     have b6 := Nat.eq_of_beq_eq_true b6
     have b7 := Nat.eq_of_beq_eq_true b7
     have b8 := Nat.eq_of_beq_eq_true b8
     subst b1 b2 b3 b4 b5 b6 b7 b8
     have hl := prP_len hpp
     subst hl
     refine ⟨rfl, ok2, rg, cf, ?_, hpp, ha, hb, ?_, ?_, fun _ => rfl, ?_⟩
     ·dsimp only; rw [zb_]
     ·dsimp only; rw [zb_]; exact hc
     ·dsimp only; rw [zb_]; exact hj
     ·dsimp only; rw [zb_]
    ·cases hp
   ·cases hp
  ·cases hp
 ·cases hp
theorem bun_clC {rg : Nat → SV} (hc : h c = .own 60 (.agg [.int .i64 s.at_, .bool s.ended, .arr 8 1 rg, .sl j j [] 1 0 s.cells.length none, .int .i64 s.draws, .sl 0 0 [] 0 0 0 (some 0)]) true) (hr : ∀ q, q < 8 → isI .i64 (rg q) = true) (hq : ∀ q, s.regs q = iOf (rg q)) (ec : h' c = h c) (h0 : ρ 0 = 0) (hx : ρ x = j) : Bun1 ρ (h' c) (.ro (fsS s x)) ∧ Bun1 ρ (h' c) (clC s x) := by
 have hcl : ∀ β, (SV.agg [.int .i64 s.at_, .bool s.ended, .arr 8 1 rg, .sl j j [] 1 0 s.cells.length none, .int .i64 s.draws, .sl 0 0 [] 0 0 0 (some 0)]).cl β = ((fsS s x).ren ρ).cl β := fun β => by
  have h8 : (SV.arr 8 1 rg).cl β = (SV.arr 8 1 fun q => .int .i64 (s.regs q)).cl β := arrCl fun q hq' => by rw [isI_cl (hr q hq'), hq]; rfl
  simp only [fsS, SV.ren, renL, hx, h0, cl_agg, x0_, clL_nil, h8]
 constructor
 ·exact Fit.ro (by rw [ec, hc]; rfl) hcl (fun n k f e => by cases e)
 ·show Less (h' c) (.own 60 ((fsS s x).ren ρ) true)
  rw [ec, hc]
  exact .val hcl (fun n k f e => by cases e) (fun n k f e => by cases e)
theorem bun_clJ {cf : Nat → SV} (hj : h j = .own 2 (.arr s.cells.length 1 cf) false) (hr : ∀ q, q < s.cells.length → isI .i64 (cf q) = true) (hq : s.cells = ls iOf s.cells.length cf) (ej : h' j = h j) : Bun1 ρ (h' j) (.ro (.arr s.cells.length 1 (i64S s.cells))) := by
 refine Fit.ro (u := .arr s.cells.length 1 cf) (by rw [ej, hj]; rfl) (fun β => arrCl fun q hlt => ?_) (fun n k f e => by injection e with e1 e2 e3; subst e1 e2; exact ⟨_, rfl⟩)
 rw [isI_cl (hr q hlt)]
 unfold i64S
 rw [hq, ls_getD hlt]; rfl
end
end Go.Proofs.YtjliakjbdcplcaaGreat.Vm
end
section
namespace Go.Proofs.YtjliakjbdcplcaaGreat.Vm
open Go.RowKit
theorem evR_st {h : HM} {v : Evi} : (HB.ro (evS v)).stable h := by simp [HB.stable, evS, Stable, zd_]
theorem fsR_st {h : HM} {s : Sta} {j : Nat} (h0 : (h 0).born = true) (hj : (h j).born = true) : (HB.ro (fsS s j)).stable h := by simp [HB.stable, fsS, Stable, zd_, h0, hj]
theorem clA_st {h : HM} {i n : Nat} (hi : (h i).born = true) : (clA i n).stable h := ⟨hi, hi⟩
theorem clB_st {h : HM} {v : Evi} : (clB v).stable h := by simp [clB, HB.stable, evS, Stable, zd_]
theorem clC_st {h : HM} {s : Sta} {j : Nat} (h0 : (h 0).born = true) (hj : (h j).born = true) : (clC s j).stable h := by simp [clC, HB.stable, fsS, Stable, zd_, h0, hj]
def sBgG : yq_ := fun args h m => match args with
 | [.ptr a [], .ptr b [], .ptr c []] => match clP h a b c with
  | some (P, v, s, i, j, ok) => bif yr_ [0, a, b, c, i, j] then some (ok ∧ (∀ x ∈ P, x.ok) ∧ P.length ≤ 1000000 ∧ s.cells.length ≤ 1000000 ∧ yt_ P v s = 0, .tup [.ptr m [], .int .i64 0], [a, b, c, i, j], [(m, eB (m + 1) (m + 4) P.length), (m + 1, mB s v Ins0 (m + 2) (m + 3)), (m + 2, cB s), (m + 3, sB s), (m + 4, prO P)]) else none
  | none => none
 | _ => none
theorem sBgG_ok : zj_ Tryz.prog 83 sBgG := by
 refine ⟨zf_ (by kernel_rfl), fun args h m c v rd wr hs hm hc w0 M β h' w R hrd hwr hst => ?_⟩
 unfold sBgG at hs
 split at hs
 ·rename_i a b c
  split at hs
  ·rename_i P v s i j ok hcp
   obtain ⟨hnd, hs⟩ := zk_ hs
   simp only [Option.some.injEq, Prod.mk.injEq] at hs
   obtain ⟨rfl, rfl, rfl, rfl⟩ := hs
   obtain ⟨hs0, ok2, rg, cf, rfl, hpp, ha, hb, hcc, hj, hq, hql⟩ := clP_val hcp
   obtain ⟨⟨hok2, hrg, hcf⟩, hP, hn, hcl, hE⟩ := hc
   have ea := hrd a (by simp)
   have eb := hrd b (by simp)
   have ec := hrd c (by simp)
   have ei := hrd i (by simp)
   have ej := hrd j (by simp)
   exact bun_ok (h := h) (m := m) [0, a, b, c, i, j] (beg_good P v s hs0 hP hn hcl hE) R rfl (by simp) rfl rfl hnd
    ⟨Fit.gone (by rw [R.nil0]; rfl), Fit.ro (u := .sl i i [] 5 0 P.length none) (by rw [ea, ha]; rfl) (fun β => rfl) (fun n k f e => by cases e), Fit.ro (u := evS v) (by rw [eb, hb]; rfl) (fun β => rfl) (fun n k f e => by cases e), (bun_clC hcc hrg hq ec rfl rfl).1, bun_pr hpp hok2 ei, bun_clJ hj hcf hql ej, trivial⟩ hm
    (fun p hp => by
     simp only [newB, List.drop, List.length_cons, List.length_nil, List.mem_cons, List.not_mem_nil, or_false] at hp
     rcases hp with rfl | rfl | rfl | rfl | rfl
     ·exact hwr (m, eB (m + 1) (m + 4) P.length) (by simp)
     ·exact hwr (m + 1, mB s v Ins0 (m + 2) (m + 3)) (by simp)
     ·exact hwr (m + 2, cB s) (by simp)
     ·exact hwr (m + 3, sB s) (by simp)
     ·exact hwr (m + 4, prO P) (by simp)) (by simp) rfl
    ⟨trivial, ⟨rfl, rfl⟩, evR_st, fsR_st rfl rfl, prR_st, celR_st, trivial⟩ ⟨rfl, rfl, rfl, trivial⟩
    ⟨trivial, ⟨rfl, rfl⟩, evR_st, fsR_st rfl rfl, prR_st, celR_st, eB_st rfl rfl, mB_st rfl rfl, cB_st, sB_st, prO_st, trivial⟩ (⟨rfl, trivial, trivial⟩) rfl (by simp [SV.ren, renL, xo_]) (by show [(m, (eB 7 10 _).ren _), (m + 1, (mB s v Ins0 8 9).ren _), (m + 2, (cB s).ren _), (m + 3, (sB s).ren _), (m + 4, (prO P).ren _)] = _; rw [eB_ren, mB_ren, cB_ren, sB_ren, prO_ren]; simp [xo_])
  ·cases hs
 ·cases hs
def cNw : FuncId → Option yq_ := y3_ [(34, sClI), (82, sBegin), (83, sBgG)]
theorem cNw_ok : ∀ f S, cNw f = some S → zj_ Tryz.prog f S := zp_ ⟨sClI_ok, sBegin_ok, sBgG_ok, trivial⟩
theorem new_good (P : List Ins) (v : Evi) (t s q o y d : Int) (cs : List Int) (p1 p2 : Nat) (hP : ∀ x ∈ P, x.ok) (hn : P.length ≤ 1000000) (hc : cs.length ≤ 1000000) (hE : yt_ P v (ys_ y t s cs d) = 0) : zo_ Tryz.prog 36 [.sl 1 2 [] 5 0 P.length (some p1), .agg [.int .u64 v.seed, .int .i64 v.process, .int .i64 v.ports, .int .i64 v.look, .int .i64 v.now], .agg [.agg [.int .i64 t, .int .i64 s, .int .i64 q], .int .i64 o, .int .i64 y], .sl 3 4 [] 1 0 cs.length (some p2), .int .i64 d]
  [.gone, .gone, .ro (.arr P.length 5 (prS P)), .gone, .ro (.arr cs.length 1 (i64S cs))]
  (.tup [.ptr 5 [], .int .i64 0]) [.gone, .gone, .gone, .gone, .gone, rB 6 11 12 13 0 false, eB 7 10 P.length, mB (ys_ y t s cs d) v Ins0 8 9, cB (ys_ y t s cs d), sB (ys_ y t s cs d), prO P, clA 14 P.length, clB v, clC (ys_ y t s cs d) 15, prO P, cB (ys_ y t s cs d)] := by
 refine ze_ (fn := Tryz.f36) 5 36 0 rfl rfl rfl rfl rfl (by simp only [zd_, Stable, hp, i64S, prS, yo_, zn_, sndS, stS, evS, macS, mB, cB, sB, eB, prO, prR, pbB, fbB, rB, rvS, clA, clB, clC, fsS, HB.stable]; simp [HB.born]) rfl fun w0 M E hro => ?_
 repeat' (first | refine Ctl.h ?_ | ((with_reducible intro hif); first | (focus (cases hif; done)) | ((try simp only [JH] at hif); try (exfalso; omega))) | ((with_reducible first | apply J22 cNw_ok za_ | apply J23 fol cNw_ok za_ | apply J24); (·rfl); (· (simp only [push_cast, ↓JP, Nat.reduceAdd, Nat.reduceEqDiff, Nat.reduceLT, Nat.reduceMul, Nat.reduceLeDiff, reduceCtorEq, reduceIte, ↓JK, cNw, sBgG, JE, JB, sClI, sBegin, clP, prP, yr_, memN, inR, inN, hE]; rfl)); (try kernel_rfl); (try (focus (first | exact True.intro | ((try simp only [JS, implies_true, forall_const, z9_, z2_, kndOf, inR, inN]); (first | first | omega | exact ⟨fun q _ => rfl, hn⟩ | exact ⟨hP, hn, hc⟩ | exact ⟨hP, hn, hc, hE⟩ | (repeat' (first | assumption | exact True.intro | omega | apply And.intro))); done))))) | fail)
 apply At.endsPick [0, 1, 2, 3, 4, 16, 11, 12, 13, 14, 15, 9, 5, 10, 7, 8] za_ (fn := Tryz.f36) (rs := [.tmp 10, .tmp 11]) Anc.refl hro (lb_ rfl) rfl
 ·exact yi_
 ·exact xf_
 ·rfl
 ·rfl
 ·rfl
 ·exact k29_
 ·rfl
 ·exact k156_
 ·exact zs_
 ·exact fun β => rfl
 ·exact k156_
end Go.Proofs.YtjliakjbdcplcaaGreat.Vm
end
section
namespace Go.Proofs.YtjliakjbdcplcaaGreat.Vm
open Go.RowKit
attribute [local push_cast] prS zn_ i64S nav_ins xz_ xy_ xx_ xw_ xv_ nav_snd xu_ xt_ xs_ z4_ yh_ yn_ yg_ zw_ zy_ iOf JM eB prO JE inR inN yr_ memN
theorem goT_lit (P : List Ins) (s : Sta) (v : Evi) (x0 : Ins) (u : Nat) (f : Int) (hP : PG P) (V : VOk v) (hG : SG P s) (hu : u ≤ 4611686018427387904) (hf0 : 0 ≤ f) (hf1 : f ≤ 4096) (r : RR) (hr : xj_ P v f.toNat s x0 [] 0 = r) : zo_ Tryz.prog 15 [.ptr 1 [], .int .i64 f] [.gone, rB 2 7 8 9 u true, eB 3 6 P.length, mB s v x0 4 5, cB s, sB s, prO P, .gone, .gone, .gone]
  (.tup [.bool (decide (r.bad = 0)), .int .i64 (if r.bad = 190 then 0 else r.bad)]) [.gone, rB 2 7 8 9 u true, eB 3 6 P.length, mB r.s v r.x 4 10, cB r.s, .gone, prO P, .gone, .gone, .gone, sB r.s] := by
 have hrr : rrE f = 0 := by unfold rrE; rw [if_neg (by omega)]
 refine ze_ (fn := Tryz.f15) 10 44 0 rfl rfl rfl rfl rfl u21_ rfl fun w0 M E hro => ?_
 repeat' (first | refine Ctl.h ?_ | ((with_reducible intro hif); first | (focus (cases hif; done)) | ((try simp only [JH] at hif); try (exfalso; omega))) | ((with_reducible first | apply J22 zu_ za_ | apply J23 fol zu_ za_ | apply J24); (·rfl); (· exact k158_); (try kernel_rfl); try exact yk_) | fail)
 with_reducible apply WF.range (fn' := Tryz.f88) 28
 ·exact k124_
 ·exact xf_
 ·rfl
 ·rfl
 ·rfl
 ·rfl
 ·rfl
 ·rfl
 ·rfl
 intro E1 rec tmps after hE1 hrec hcf haft
 repeat' (first | refine Ctl.h ?_ | ((with_reducible intro hif); first | (focus (cases hif; done)) | ((try simp only [JH] at hif); try (exfalso; omega))) | ((with_reducible first | apply J22 zu_ za_ | apply J23 fol zu_ za_ | apply J24); (·rfl); (· exact k159_); (try kernel_rfl); try exact yk_) | fail)
 refine At.pick (L2 := [.gone, rB 2 7 8 9 u true, eB 3 6 P.length, mB s v x0 4 17, cB s, .gone, prO P, .gone, .gone, .gone, .own 48 (.ptr 1 []) true, .own 4 (.bool false) true, .own 43 (.nat .i64 0) true, pbB 2, fbB f, .raw (.deferred (some [])), .raw (.loop (rec .ready none)), sB s]) (φ2 := [(0, .yl 16), (1, .ptr 13 []), (2, .ptr 14 []), (4, .nat .i64 0)]) [0, 1, 2, 3, 4, 5, 6, 7, 8, 9, 10, 11, 12, 13, 14, 15, 16, 5] rfl rfl rfl ?_ rfl ?_ ?_ ?_ rfl ?_
 ·exact k29_
 ·exact k151_
 ·exact k16_
 ·exact k151_
 refine WF.loopAt (fun (z : RS) => RInv P v f r z) (fun (z : RS) => [(0, .yl 16), (1, .ptr 13 []), (2, .ptr 14 []), (4, .nat .i64 z.k)]) (fun (z : RS) => [.gone, rB 2 7 8 9 u true, eB 3 6 P.length, mB z.s v z.x 4 17, cB z.s, .gone, prO P, .gone, .gone, .gone, .own 48 (.ptr 1 []) true, .own 4 (.bool false) true, .own 43 (.nat .i64 0) true, pbB 2, fbB f, .raw (.deferred (some [])), .raw (.loop (rec .ready none)), sB z.s]) (fun (z : RS) => f.toNat - z.k) ⟨0, s, x0, [], 0⟩ ⟨Nat.zero_le _, hG, rfl, hr⟩ ?_ ?_ rfl ?_ ?_ rfl ?_
 ·exact k5_
 ·exact k6_
 ·exact k151_
 ·exact k151_
 rintro ⟨k, ⟨at1, en, rg, ce, dr, se⟩, x, tr, a⟩ ⟨hk, hg, hl, hr1⟩
 dsimp only at hk hg hl hr1 ⊢
 cases en
 ·by_cases hkf : k < f.toNat
  ·have hkf2 : (k : Int) < f := by omega
   have hn190 := stepE_ne190 P v ⟨at1, false, rg, ce, dr, se⟩
   have hl2 : (tr ++ [at1]).length = k + 1 := by simp [hl]
   by_cases hst : xg_ P v ⟨at1, false, rg, ce, dr, se⟩ = 0
   ·repeat' (first | refine Ctl.h ?_ | ((with_reducible intro hif); first | (focus (cases hif; done)) | ((try simp only [JH] at hif); try (exfalso; omega))) | ((with_reducible first | apply J22 zu_ za_ | apply J23 fol zu_ za_ | apply J24); (·rfl); (· exact k160_); (try kernel_rfl); try exact yk_) | fail)
    with_reducible apply WF.split 3 5
    ·rfl
    with_reducible apply At.run zu_ za_
    ·rfl
    ·rfl
    ·rfl
    ·exact k152_
    ·exact yw_
    with_reducible apply At.yield (gr := _)
    ·rfl
    ·rfl
    ·rfl
    ·rfl
    ·rfl
    ·rfl
    ·exact k152_
    ·exact k153_
    ·exact k152_
    ·exact yw_
    ·exact k152_
    ·exact yw_
    ·exact k153_
    ·exact hrec
    ·exact hcf
    ·rfl
    ·rfl
    ·rfl
    intro lb E2 next hE2 hnext
    repeat' (first | refine Ctl.h ?_ | ((with_reducible intro hif); first | (focus (cases hif; done)) | ((try simp only [JH] at hif); try (exfalso; omega))) | ((with_reducible first | apply J22 zu_ za_ | apply J23 fol zu_ za_ | apply J24); (·rfl); (· exact k161_); (try kernel_rfl); try exact yk_) | fail)
    with_reducible apply At.begins hrec
    ·rfl
    with_reducible refine At.code ?_
    repeat' (first | refine Ctl.h ?_ | ((with_reducible intro hif); first | (focus (cases hif; done)) | ((try simp only [JH] at hif); try (exfalso; omega))) | ((with_reducible first | apply J22 zu_ za_ | apply J23 fol zu_ za_ | apply J24); (·rfl); (· exact k161_); (try kernel_rfl); try exact yk_) | fail)
    with_reducible apply At.roundNormal
    ·exact k153_
    apply hnext
    with_reducible apply At.runEnd zu_ za_
    ·rfl
    ·rfl
    ·rfl
    ·exact k152_
    ·exact yw_
    repeat' (first | refine Ctl.h ?_ | ((with_reducible intro hif); first | (focus (cases hif; done)) | ((try simp only [JH] at hif); try (exfalso; omega))) | ((with_reducible first | apply J22 zu_ za_ | apply J23 fol zu_ za_ | apply J24); (·rfl); (· exact k161_); (try kernel_rfl); try exact yk_) | fail)
    refine At.nextPick [0, 1, 2, 3, 4, 5, 6, 7, 8, 9, 10, 11, 12, 13, 14, 15, 16, 18] ⟨k + 1, xp_ P v ⟨at1, false, rg, ce, dr, se⟩, stepX P ⟨at1, false, rg, ce, dr, se⟩ x, tr ++ [at1], at1⟩ ?_ rfl rfl rfl ?_ rfl ?_ ?_ ?_ rfl
    ·exact k135_
    ·exact k29_
    ·exact k151_
    ·exact k16_
    ·exact k151_
   ·rw [runA_bad rfl (by omega) hst] at hr1
    subst hr1
    have hb1 : decide (xg_ P v ⟨at1, false, rg, ce, dr, se⟩ = 0) = false := by simp [hst]
    have hb2 : (if xg_ P v ⟨at1, false, rg, ce, dr, se⟩ = 190 then 0 else xg_ P v ⟨at1, false, rg, ce, dr, se⟩) = xg_ P v ⟨at1, false, rg, ce, dr, se⟩ := if_neg hn190
    have hb3 : (decide (xg_ P v ⟨at1, false, rg, ce, dr, se⟩ ≠ 0) && decide (xg_ P v ⟨at1, false, rg, ce, dr, se⟩ ≠ 190)) = true := by simp [hst, hn190]
    repeat' (first | refine Ctl.h ?_ | ((with_reducible intro hif); first | (focus (cases hif; done)) | ((try simp only [JH] at hif); try (exfalso; omega))) | ((with_reducible first | apply J22 zu_ za_ | apply J23 fol zu_ za_ | apply J24); (·rfl); (· exact k160_); (try kernel_rfl); try exact yk_) | fail)
    with_reducible apply WF.split 3 5
    ·rfl
    with_reducible apply At.run zu_ za_
    ·rfl
    ·rfl
    ·rfl
    ·exact k152_
    ·exact yw_
    with_reducible apply At.yield (gr := _)
    ·rfl
    ·rfl
    ·rfl
    ·rfl
    ·rfl
    ·rfl
    ·exact k152_
    ·exact k153_
    ·exact k152_
    ·exact yw_
    ·exact k152_
    ·exact yw_
    ·exact k153_
    ·exact hrec
    ·exact hcf
    ·rfl
    ·rfl
    ·rfl
    intro lb E2 next hE2 hnext
    repeat' (first | refine Ctl.h ?_ | ((with_reducible intro hif); first | (focus (cases hif; done)) | ((try simp only [JH] at hif); try (exfalso; omega))) | ((with_reducible first | apply J22 zu_ za_ | apply J23 fol zu_ za_ | apply J24); (·rfl); (· exact k161_); (try kernel_rfl); try exact yk_) | fail)
    with_reducible apply At.begins hrec
    ·rfl
    with_reducible refine At.code ?_
    repeat' (first | refine Ctl.h ?_ | ((with_reducible intro hif); first | (focus (cases hif; done)) | ((try simp only [JH] at hif); try (exfalso; omega))) | ((with_reducible first | apply J22 zu_ za_ | apply J23 fol zu_ za_ | apply J24); (·rfl); (· exact k162_); (try kernel_rfl); try exact yk_) | fail)
    with_reducible apply At.roundRet
    ·exact k153_
    apply hnext
    with_reducible apply At.runEnd zu_ za_
    ·rfl
    ·rfl
    ·rfl
    ·exact k152_
    ·exact yw_
    repeat' (first | refine Ctl.h ?_ | ((with_reducible intro hif); first | (focus (cases hif; done)) | ((try simp only [JH] at hif); try (exfalso; omega))) | ((with_reducible first | apply J22 zu_ za_ | apply J23 fol zu_ za_ | apply J24); (·rfl); (· exact k161_); (try kernel_rfl); try exact yk_) | fail)
    with_reducible apply At.itRet .done
    ·rfl
    ·rfl
    ·intro h; cases h
    apply haft
    intro w1 M1 D1 hA
    dsimp only
    rw [hb1, hb2]
    try rw [hl2]
    try rw [hb3]
    repeat' (first | refine Ctl.h ?_ | ((with_reducible intro hif); first | (focus (cases hif; done)) | ((try simp only [JH] at hif); try (exfalso; omega))) | ((with_reducible first | apply J22 zu_ za_ | apply J23 fol zu_ za_ | apply J24); (·rfl); (· exact k161_); (try kernel_rfl); try exact yk_) | fail)
    apply At.endsPick [0, 1, 2, 3, 4, 5, 6, 7, 8, 9, 18] za_ (fn := Tryz.f15) (rs := [.cell 4 4, .cell 5 43]) hA hro (lb_ rfl) rfl
    ·exact yi_
    ·exact xf_
    ·rfl
    ·rfl
    ·rfl
    ·exact k29_
    ·rfl
    ·exact k151_
    ·exact zs_
    ·exact fun β => rfl
    ·exact k151_
  ·have e0 : f.toNat - k = 0 := by omega
   have hkf2 : ¬ (k : Int) < f := by omega
   rw [e0, xr_ rfl] at hr1
   subst hr1
   repeat' (first | refine Ctl.h ?_ | ((with_reducible intro hif); first | (focus (cases hif; done)) | ((try simp only [JH] at hif); try (exfalso; omega))) | ((with_reducible first | apply J22 zu_ za_ | apply J23 fol zu_ za_ | apply J24); (·rfl); (· exact k163_); (try kernel_rfl); try exact yk_) | fail)
   with_reducible apply WF.split 3 5
   ·rfl
   with_reducible apply At.run zu_ za_
   ·rfl
   ·rfl
   ·rfl
   ·exact k154_
   ·exact yw_
   with_reducible apply At.yield (gr := _)
   ·rfl
   ·rfl
   ·rfl
   ·rfl
   ·rfl
   ·rfl
   ·exact k154_
   ·exact k155_
   ·exact k154_
   ·exact yw_
   ·exact k154_
   ·exact yw_
   ·exact k155_
   ·exact hrec
   ·exact hcf
   ·rfl
   ·rfl
   ·rfl
   intro lb E2 next hE2 hnext
   repeat' (first | refine Ctl.h ?_ | ((with_reducible intro hif); first | (focus (cases hif; done)) | ((try simp only [JH] at hif); try (exfalso; omega))) | ((with_reducible first | apply J22 zu_ za_ | apply J23 fol zu_ za_ | apply J24); (·rfl); (· exact k164_); (try kernel_rfl); try exact yk_) | fail)
   with_reducible apply At.begins hrec
   ·rfl
   with_reducible refine At.code ?_
   repeat' (first | refine Ctl.h ?_ | ((with_reducible intro hif); first | (focus (cases hif; done)) | ((try simp only [JH] at hif); try (exfalso; omega))) | ((with_reducible first | apply J22 zu_ za_ | apply J23 fol zu_ za_ | apply J24); (·rfl); (· exact k164_); (try kernel_rfl); try exact yk_) | fail)
   with_reducible apply At.roundRet
   ·exact k155_
   apply hnext
   with_reducible apply At.runEnd zu_ za_
   ·rfl
   ·rfl
   ·rfl
   ·exact k154_
   ·exact yw_
   repeat' (first | refine Ctl.h ?_ | ((with_reducible intro hif); first | (focus (cases hif; done)) | ((try simp only [JH] at hif); try (exfalso; omega))) | ((with_reducible first | apply J22 zu_ za_ | apply J23 fol zu_ za_ | apply J24); (·rfl); (· exact k164_); (try kernel_rfl); try exact yk_) | fail)
   with_reducible apply At.itRet .done
   ·rfl
   ·rfl
   ·intro h; cases h
   apply haft
   intro w1 M1 D1 hA
   dsimp only
   try rw [hl]
   repeat' (first | refine Ctl.h ?_ | ((with_reducible intro hif); first | (focus (cases hif; done)) | ((try simp only [JH] at hif); try (exfalso; omega))) | ((with_reducible first | apply J22 zu_ za_ | apply J23 fol zu_ za_ | apply J24); (·rfl); (· exact k164_); (try kernel_rfl); try exact yk_) | fail)
   apply At.endsPick [0, 1, 2, 3, 4, 5, 6, 7, 8, 9, 17] za_ (fn := Tryz.f15) (rs := [.cell 4 4, .cell 5 43]) hA hro (lb_ rfl) rfl
   ·exact yi_
   ·exact xf_
   ·rfl
   ·rfl
   ·rfl
   ·exact k29_
   ·rfl
   ·exact k151_
   ·exact zs_
   ·exact fun β => rfl
   ·exact k151_
 ·rw [xk_ rfl] at hr1
  subst hr1
  repeat' (first | refine Ctl.h ?_ | ((with_reducible intro hif); first | (focus (cases hif; done)) | ((try simp only [JH] at hif); try (exfalso; omega))) | ((with_reducible first | apply J22 zu_ za_ | apply J23 fol zu_ za_ | apply J24); (·rfl); (· exact k164_); (try kernel_rfl); try exact yk_) | fail)
  with_reducible apply At.itNormal .ready
  ·rfl
  ·rfl
  ·intro h; cases h
  apply haft
  intro w1 M1 D1 hA
  dsimp only
  try rw [hl]
  repeat' (first | refine Ctl.h ?_ | ((with_reducible intro hif); first | (focus (cases hif; done)) | ((try simp only [JH] at hif); try (exfalso; omega))) | ((with_reducible first | apply J22 zu_ za_ | apply J23 fol zu_ za_ | apply J24); (·rfl); (· exact k164_); (try kernel_rfl); try exact yk_) | fail)
  apply At.endsPick [0, 1, 2, 3, 4, 5, 6, 7, 8, 9, 17] za_ (fn := Tryz.f15) (rs := [.cell 4 4, .cell 5 43]) hA hro (lb_ rfl) rfl
  ·exact yi_
  ·exact xf_
  ·rfl
  ·rfl
  ·rfl
  ·exact k29_
  ·rfl
  ·exact k151_
  ·exact zs_
  ·exact fun β => rfl
  ·exact k151_
end Go.Proofs.YtjliakjbdcplcaaGreat.Vm
end
section
namespace Go.Proofs.YtjliakjbdcplcaaGreat.Vm
open Go.RowKit
def cBk : FuncId → Option yq_ := y3_ [(51, rN), (83, sBgG)]
theorem cBk_ok : ∀ f S, cBk f = some S → zj_ Tryz.prog f S := zp_ ⟨rN_ok, sBgG_ok, trivial⟩
theorem back_lit (P : List Ins) (v : Evi) (s : Sta) (u : Nat) (w : Bool) (hs : s.sends = []) (hP : ∀ x ∈ P, x.ok) (hn : P.length ≤ 1000000) (hc : s.cells.length ≤ 1000000) (hE : yt_ P v s = 0) : zo_ Tryz.prog 16 [.ptr 1 []] [.gone, rB 2 3 4 5 u w, .gone, clA 6 P.length, clB v, clC s 7, prO P, cB s]
  (.int .i64 0) [.gone, rB 8 3 4 5 0 false, .gone, clA 6 P.length, clB v, clC s 7, prO P, cB s, eB 9 12 P.length, mB s v Ins0 10 11, cB s, sB s, prO P] := by
 obtain ⟨a0, e0, rg, cs, d, n0⟩ := s
 dsimp only at hs hc
 subst hs
 refine ze_ (fn := Tryz.f16) 8 26 0 rfl rfl rfl rfl rfl (by simp only [zd_, Stable, hp, i64S, prS, yo_, zn_, sndS, stS, evS, macS, mB, cB, sB, eB, prO, prR, pbB, fbB, rB, rvS, clA, clB, clC, fsS, HB.stable]; simp [HB.born, rB, rvS, clA, clB, clC, prO, cB]) rfl fun w0 M E hro => ?_
 repeat' (first | refine Ctl.h ?_ | ((with_reducible intro hif); first | (focus (cases hif; done)) | ((try simp only [JH] at hif); try (exfalso; omega))) | ((with_reducible first | apply J22 cBk_ok za_ | apply J23 fol cBk_ok za_ | apply J24); (·rfl); (· (simp only [push_cast, ↓JP, Nat.reduceAdd, Nat.reduceEqDiff, Nat.reduceLT, Nat.reduceMul, Nat.reduceLeDiff, reduceCtorEq, reduceIte, ↓JK, JM, JE, JB, cBk, rB, rvS, clA, clB, clC, fsS, prO, rN, sBgG, clP, prP, yr_, memN, inR, inN]; rfl)); (try kernel_rfl); (try (focus (first | exact True.intro | ((try simp only [JS, implies_true, forall_const, z9_, z2_, kndOf, inR, inN]); (first | first | omega | exact ⟨hP, hn, hc, hE⟩ | (repeat' (first | assumption | exact True.intro | omega | apply And.intro))); done))))) | fail)
 apply At.endsPick [0, 1, 2, 3, 4, 5, 6, 7, 8, 9, 10, 11, 12] za_ (fn := Tryz.f16) (rs := [.tmp 2]) Anc.refl hro (lb_ rfl) rfl
 ·exact yi_
 ·exact xf_
 ·rfl
 ·rfl
 ·rfl
 ·exact k29_
 ·rfl
 ·exact k156_
 ·exact zs_
 ·exact fun β => rfl
 ·exact k156_
def sNewG : yq_ := fun args h m => match args with
 | [v1, .agg [v2, v3, v4, v5, v6], .agg [.agg [v7, v8, v9], v10, v11], v12, v13] => match xa_ h 5 (.tup []) v1, xa_ h 1 (.tup []) v12 with
  | some (c1, n1, f1, r1), some (c12, n12, f12, r12) => bif isI .u64 v2 && isI .i64 v3 && isI .i64 v4 && isI .i64 v5 && isI .i64 v6 && isI .i64 v7 && isI .i64 v8 && isI .i64 v9 && isI .i64 v10 && isI .i64 v11 && isI .i64 v13 then some (c1 ∧ c12 ∧ (∀ q, q < n1 → isIns (f1 q) = true) ∧ (∀ q, q < n12 → isI .i64 (f12 q) = true) ∧ ((∀ x ∈ (ls zl_ n1 f1), x.ok)) ∧ (n1 ≤ 1000000) ∧ (n12 ≤ 1000000) ∧ (yt_ (ls zl_ n1 f1) ⟨(iOf v2), (iOf v3), (iOf v4), (iOf v5), (iOf v6)⟩ (ys_ (iOf v11) (iOf v7) (iOf v8) (ls iOf n12 f12) (iOf v13)) = 0), .tup [.ptr m [], .int .i64 0], r1 ++ r12, [(m, rB (m + 1) (m + 6) (m + 7) (m + 8) 0 false), (m + 1, eB (m + 2) (m + 5) (ls zl_ n1 f1).length), (m + 2, mB (ys_ (iOf v11) (iOf v7) (iOf v8) (ls iOf n12 f12) (iOf v13)) ⟨(iOf v2), (iOf v3), (iOf v4), (iOf v5), (iOf v6)⟩ Ins0 (m + 3) (m + 4)), (m + 3, cB (ys_ (iOf v11) (iOf v7) (iOf v8) (ls iOf n12 f12) (iOf v13))), (m + 4, sB (ys_ (iOf v11) (iOf v7) (iOf v8) (ls iOf n12 f12) (iOf v13))), (m + 5, prO (ls zl_ n1 f1)), (m + 6, clA (m + 9) (ls zl_ n1 f1).length), (m + 7, clB ⟨(iOf v2), (iOf v3), (iOf v4), (iOf v5), (iOf v6)⟩), (m + 8, clC (ys_ (iOf v11) (iOf v7) (iOf v8) (ls iOf n12 f12) (iOf v13)) (m + 10)), (m + 9, prO (ls zl_ n1 f1)), (m + 10, cB (ys_ (iOf v11) (iOf v7) (iOf v8) (ls iOf n12 f12) (iOf v13)))]) else none
  | _, _ => none
 | _ => none
theorem sNewG_ok : zj_ Tryz.prog 36 sNewG := by
 refine ⟨zf_ (by kernel_rfl), fun args h m c v rd wr hs hm hc w0 M β h' w R hrd hwr hst => ?_⟩
 unfold sNewG at hs
 split at hs
 ·rename_i v1 v2 v3 v4 v5 v6 v7 v8 v9 v10 v11 v12 v13
  split at hs
  ·rename_i c1 n1 f1 r1 c12 n12 f12 r12 a1 a12
   obtain ⟨hb, hs⟩ := zk_ hs
   simp only [Option.some.injEq, Prod.mk.injEq] at hs
   obtain ⟨rfl, rfl, rfl, rfl⟩ := hs
   simp only [Bool.and_eq_true] at hb
   obtain ⟨⟨⟨⟨⟨⟨⟨⟨⟨⟨b2, b3⟩, b4⟩, b5⟩, b6⟩, b7⟩, b8⟩, b9⟩, b10⟩, b11⟩, b13⟩ := hb
   obtain ⟨k1, k12, g1, g12, y1, y2, y3, y4⟩ := hc
   obtain ⟨A1, p1, d1, e1, t1⟩ := zg_ R a1 k1 (fun i hi => hrd i (List.mem_append_left _ hi)) (by omega)
   obtain ⟨A12, p12, d12, e12, t12⟩ := zg_ R a12 k12 (fun i hi => hrd i (List.mem_append_right _ hi)) (by omega)
   refine yf_ (views := [⟨5, (ls zl_ n1 f1).length, prS (ls zl_ n1 f1), A1, p1⟩, ⟨1, (ls iOf n12 f12).length, i64S (ls iOf n12 f12), A12, p12⟩]) (new_good (ls zl_ n1 f1) ⟨(iOf v2), (iOf v3), (iOf v4), (iOf v5), (iOf v6)⟩ (iOf v7) (iOf v8) (iOf v9) (iOf v10) (iOf v11) (iOf v13) (ls iOf n12 f12) p1 p12 y1 (by rw [zb_]; exact y2) (by rw [zb_]; exact y3) y4) ?_ R hm hwr ?_ ?_ ?_
   ·intro x hx
    simp only [List.mem_cons, List.not_mem_nil, or_false] at hx
    rcases hx with rfl | rfl
    ·exact xn_ t1 e1 g1
    ·exact z0_ t12 e12 g12
   ·intro β1 hv
    simp only [Vd, zb_, and_true] at hv
    obtain ⟨z1, z12⟩ := hv
    simp only [denL, z7_, z6_, z5_, zr_, zb_, z1, z12, d1, d12, zc_ b2, zc_ b3, zc_ b4, zc_ b5, zc_ b6, zc_ b7, zc_ b8, zc_ b9, zc_ b10, zc_ b11, zc_ b13]
   ·exact k156_
   ·exact k156_
  ·cases hs
 ·cases hs
theorem litNat {f : FuncId} {a : SV} {k : IntKind} {n : Nat} {L0 L1 : List HB} {v : SV} (H : zo_ Tryz.prog f [a, .int k n] L0 v L1) : zo_ Tryz.prog f [a, .nat k n] L0 v L1 := fun w0 M β w R => H w0 M β w R
def runP (h : HM) (r : Nat) : Option (Nat × Bool × (Sta × Evi × Ins × List Ins) × (Nat × Nat × Nat × Nat × Nat) × (Nat × Nat × Nat) × Prop) := match h r with
 | .own t (.agg [.ptr e [], .fn fi [.ptr a [], .ptr b [], .ptr c []], .nat .i64 u, .bool w]) true => match engP h e with
  | some (s, v, x, P, (g, c1, k, i), ok) => bif Nat.beq t 52 && Nat.beq fi 83 && yr_ [0, r, e, g, c1, k, i, a, b, c] && ((h a).born && (h b).born && (h c).born) then some (u, w, (s, v, x, P), (e, g, c1, k, i), (a, b, c), ok) else none
  | none => none
 | _ => none
theorem runP_val {h : HM} {r u : Nat} {w : Bool} {s : Sta} {v : Evi} {x : Ins} {P : List Ins} {e g c1 k i a b c : Nat} {ok : Prop} (hp : runP h r = some (u, w, (s, v, x, P), (e, g, c1, k, i), (a, b, c), ok)) :
  h r = rB e a b c u w ∧ engP h e = some (s, v, x, P, (g, c1, k, i), ok) ∧ yr_ [0, r, e, g, c1, k, i, a, b, c] = true ∧ (h a).born = true ∧ (h b).born = true ∧ (h c).born = true := by
 unfold runP at hp
 split at hp
 ·rename_i t e fi a b c u w hr
  split at hp
  ·rename_i s v x P g c1 k i ok he
   obtain ⟨hb, hs⟩ := zk_ hp
   simp only [Option.some.injEq, Prod.mk.injEq] at hs
   obtain ⟨rfl, rfl, ⟨rfl, rfl, rfl, rfl⟩, ⟨rfl, rfl, rfl, rfl, rfl⟩, ⟨rfl, rfl, rfl⟩, rfl⟩ := hs
   simp only [Bool.and_eq_true] at hb
   obtain ⟨⟨⟨b1, b2⟩, hnd⟩, ⟨b4, b5⟩, b6⟩ := hb
   have b1 := Nat.eq_of_beq_eq_true b1
   have b2 := Nat.eq_of_beq_eq_true b2
   subst b1 b2
   exact ⟨hr, he, hnd, b4, b5, b6⟩
  ·cases hp
 ·cases hp
def goU (u : Nat) (w : Bool) (r : RR) : Nat := bif w then u else u + r.tr.length
def goW (w : Bool) (r : RR) : Bool := bif w then true else (decide (r.bad ≠ 0) && decide (r.bad ≠ 190))
def goV (r : RR) : SV := .tup [.bool (decide (r.bad = 0)), .int .i64 (if r.bad = 190 then 0 else r.bad)]
theorem go_lit (P : List Ins) (s : Sta) (v : Evi) (x0 : Ins) (u : Nat) (w : Bool) (f : Int) (hP : PG P) (V : VOk v) (hG : SG P s) (hu : u ≤ 4611686018427387904) (hf0 : 0 ≤ f) (hf1 : f ≤ 4096) (r : RR) (hr : xj_ P v f.toNat s x0 [] 0 = r) : zo_ Tryz.prog 15 [.ptr 1 [], .int .i64 f] [.gone, rB 2 7 8 9 u w, eB 3 6 P.length, mB s v x0 4 5, cB s, sB s, prO P, .gone, .gone, .gone]
  (goV r) [.gone, rB 2 7 8 9 (goU u w r) (goW w r), eB 3 6 P.length, mB r.s v r.x 4 10, cB r.s, .gone, prO P, .gone, .gone, .gone, sB r.s] := by
 cases w
 ·exact goF_lit P s v x0 u f hP V hG hu hf0 hf1 r hr
 ·exact goT_lit P s v x0 u f hP V hG hu hf0 hf1 r hr
def rGoQ (r : Nat) (f : Int) (h : HM) (m : Nat) : Option (Prop × SV × List Nat × List (Nat × HB)) := match runP h r with
 | some (u, w, (s, v, x, P), (e, g, c1, k, i), (a, b, c), ok) => some (ok ∧ PG P ∧ VOk v ∧ SG P s ∧ u ≤ 4611686018427387904 ∧ 0 ≤ f ∧ f ≤ 4096, goV (xj_ P v f.toNat s x [] 0), [r, e, g, c1, k, i, a, b, c], [(r, rB e a b c (goU u w (xj_ P v f.toNat s x [] 0)) (goW w (xj_ P v f.toNat s x [] 0))), (e, eB g i P.length), (g, mB (xj_ P v f.toNat s x [] 0).s v (xj_ P v f.toNat s x [] 0).x c1 m), (c1, cB (xj_ P v f.toNat s x [] 0).s), (k, .gone), (i, prO P), (m, sB (xj_ P v f.toNat s x [] 0).s)])
 | none => none
def rGo : yq_ := fun args h m => match args with
 | [.ptr r [], .int .i64 f] => rGoQ r f h m
 | [.ptr r [], .nat .i64 n] => rGoQ r n h m
 | _ => none
theorem rGo_ok : zj_ Tryz.prog 15 rGo := by
 refine ⟨zf_ (by kernel_rfl), fun args h m c v rd wr hs hm hc w0 M β h' w R hrd hwr hst => ?_⟩
 unfold rGo at hs
 split at hs
 ·rename_i r f
  unfold rGoQ at hs
  split at hs
  ·rename_i u w s v x P e g c1 k i a b c ok hrp
   simp only [Option.some.injEq, Prod.mk.injEq] at hs
   obtain ⟨rfl, rfl, rfl, rfl⟩ := hs
   obtain ⟨hr, hep, hnd, ba, bb, bc⟩ := runP_val hrp
   obtain ⟨ok1, ok2, rfl, hmp, hpp, he, _⟩ := engP_val hep
   obtain ⟨⟨hok, hok2⟩, hP, hV, hG, hu, hf0, hf1⟩ := hc
   have er := hrd r (by simp)
   have ee := hrd e (by simp)
   have eg := hrd g (by simp)
   have ec := hrd c1 (by simp)
   have ek := hrd k (by simp)
   have ei := hrd i (by simp)
   exact bun_ok (h := h) (m := m) [0, r, e, g, c1, k, i, a, b, c] (go_lit P s v x u w f hP hV hG hu hf0 hf1 _ rfl) R rfl (by simp) rfl rfl hnd
    ⟨Fit.gone (by rw [R.nil0]; rfl), bun_run hr er rfl rfl rfl rfl, bun_engO he ee rfl rfl, bun_mac hmp hok eg rfl rfl, bun_cel hmp hok ec, bun_snd hmp hok ek, bun_prO hpp hok2 ei, Fit.gone (by rw [hrd a (by simp)]; exact ba), Fit.gone (by rw [hrd b (by simp)]; exact bb), Fit.gone (by rw [hrd c (by simp)]; exact bc), trivial⟩ hm
    (fun p hp => by
     simp only [newB, List.drop, List.length_cons, List.length_nil, List.mem_cons, List.not_mem_nil, or_false] at hp
     subst hp
     exact hwr _ (.tail _ (.tail _ (.tail _ (.tail _ (.tail _ (.tail _ (.head _)))))))) (by simp) rfl
    ⟨trivial, rB_st rfl rfl rfl rfl, eB_st rfl rfl, mB_st rfl rfl, cB_st, sB_st, prO_st, trivial, trivial, trivial, trivial⟩ ⟨rfl, trivial, trivial⟩
    ⟨trivial, rB_st rfl rfl rfl rfl, eB_st rfl rfl, mB_st rfl rfl, cB_st, trivial, prO_st, trivial, trivial, trivial, sB_st, trivial⟩ (⟨trivial, trivial, trivial⟩) rfl rfl (by show [(r, (rB 2 7 8 9 _ _).ren _), (e, (eB 3 6 _).ren _), (g, (mB _ v _ 4 10).ren _), (c1, (cB _).ren _), (k, HB.gone.ren _), (i, (prO P).ren _), (m, (sB _).ren _)] = _; rw [rB_ren, eB_ren, mB_ren, cB_ren, sB_ren, prO_ren]; simp [xo_, HB.ren])
  ·cases hs
 ·rename_i r f
  unfold rGoQ at hs
  split at hs
  ·rename_i u w s v x P e g c1 k i a b c ok hrp
   simp only [Option.some.injEq, Prod.mk.injEq] at hs
   obtain ⟨rfl, rfl, rfl, rfl⟩ := hs
   obtain ⟨hr, hep, hnd, ba, bb, bc⟩ := runP_val hrp
   obtain ⟨ok1, ok2, rfl, hmp, hpp, he, _⟩ := engP_val hep
   obtain ⟨⟨hok, hok2⟩, hP, hV, hG, hu, hf0, hf1⟩ := hc
   have er := hrd r (by simp)
   have ee := hrd e (by simp)
   have eg := hrd g (by simp)
   have ec := hrd c1 (by simp)
   have ek := hrd k (by simp)
   have ei := hrd i (by simp)
   exact bun_ok (h := h) (m := m) [0, r, e, g, c1, k, i, a, b, c] (litNat (go_lit P s v x u w (f : Int) hP hV hG hu hf0 hf1 _ rfl)) R rfl (by simp) rfl rfl hnd
    ⟨Fit.gone (by rw [R.nil0]; rfl), bun_run hr er rfl rfl rfl rfl, bun_engO he ee rfl rfl, bun_mac hmp hok eg rfl rfl, bun_cel hmp hok ec, bun_snd hmp hok ek, bun_prO hpp hok2 ei, Fit.gone (by rw [hrd a (by simp)]; exact ba), Fit.gone (by rw [hrd b (by simp)]; exact bb), Fit.gone (by rw [hrd c (by simp)]; exact bc), trivial⟩ hm
    (fun p hp => by
     simp only [newB, List.drop, List.length_cons, List.length_nil, List.mem_cons, List.not_mem_nil, or_false] at hp
     subst hp
     exact hwr _ (.tail _ (.tail _ (.tail _ (.tail _ (.tail _ (.tail _ (.head _)))))))) (by simp) rfl
    ⟨trivial, rB_st rfl rfl rfl rfl, eB_st rfl rfl, mB_st rfl rfl, cB_st, sB_st, prO_st, trivial, trivial, trivial, trivial⟩ ⟨rfl, trivial, trivial⟩
    ⟨trivial, rB_st rfl rfl rfl rfl, eB_st rfl rfl, mB_st rfl rfl, cB_st, trivial, prO_st, trivial, trivial, trivial, sB_st, trivial⟩ (⟨trivial, trivial, trivial⟩) rfl rfl (by show [(r, (rB 2 7 8 9 _ _).ren _), (e, (eB 3 6 _).ren _), (g, (mB _ v _ 4 10).ren _), (c1, (cB _).ren _), (k, HB.gone.ren _), (i, (prO P).ren _), (m, (sB _).ren _)] = _; rw [rB_ren, eB_ren, mB_ren, cB_ren, sB_ren, prO_ren]; simp [xo_, HB.ren])
  ·cases hs
 ·cases hs
def rStateQ (r : Nat) (f : Int) (h : HM) (m : Nat) : Option (Prop × SV × List Nat × List (Nat × HB)) := match runP h r with
 | some (u, w, (s, v, x, P), (e, g, c1, k, i), (a, b, c), ok) => some (ok ∧ s.cells.length ≤ 1000000 ∧ s.sends.length ≤ 1000000, stS s m (m + 1), [r, e, g, c1, k, i, a, b, c], [(r, rB e a b c u w), (e, eB g i P.length), (g, mB s v x c1 k), (c1, cB s), (k, sB s), (i, prO P), (m, cB s), (m + 1, sB s)])
 | none => none
def rState : yq_ := fun args h m => match args with
 | [.ptr r []] => rStateQ r 0 h m
 | _ => none
theorem rState_ok : zj_ Tryz.prog 18 rState := by
 refine ⟨zf_ (by kernel_rfl), fun args h m c v rd wr hs hm hc w0 M β h' w R hrd hwr hst => ?_⟩
 unfold rState at hs
 split at hs
 ·rename_i r
  unfold rStateQ at hs
  split at hs
  ·rename_i u w s v x P e g c1 k i a b c ok hrp
   simp only [Option.some.injEq, Prod.mk.injEq] at hs
   obtain ⟨rfl, rfl, rfl, rfl⟩ := hs
   obtain ⟨hr, hep, hnd, ba, bb, bc⟩ := runP_val hrp
   obtain ⟨ok1, ok2, rfl, hmp, hpp, he, _⟩ := engP_val hep
   obtain ⟨⟨hok, hok2⟩, hc1, hs1⟩ := hc
   have er := hrd r (by simp)
   have ee := hrd e (by simp)
   have eg := hrd g (by simp)
   have ec := hrd c1 (by simp)
   have ek := hrd k (by simp)
   have ei := hrd i (by simp)
   exact bun_ok (h := h) (m := m) [0, r, e, g, c1, k, i, a, b, c] (rstate_lit P s v x u w hc1 hs1) R rfl (by simp) rfl rfl hnd
    ⟨Fit.gone (by rw [R.nil0]; rfl), bun_run hr er rfl rfl rfl rfl, bun_engO he ee rfl rfl, bun_mac hmp hok eg rfl rfl, bun_cel hmp hok ec, bun_snd hmp hok ek, bun_prO hpp hok2 ei, Fit.gone (by rw [hrd a (by simp)]; exact ba), Fit.gone (by rw [hrd b (by simp)]; exact bb), Fit.gone (by rw [hrd c (by simp)]; exact bc), trivial⟩ hm
    (fun p hp => by
     simp only [newB, List.drop, List.length_cons, List.length_nil, List.mem_cons, List.not_mem_nil, or_false] at hp
     rcases hp with rfl | rfl
     ·exact hwr (m, cB s) (by simp)
     ·exact hwr (m + 1, sB s) (by simp)) (by simp) rfl
    ⟨trivial, rB_st rfl rfl rfl rfl, eB_st rfl rfl, mB_st rfl rfl, cB_st, sB_st, prO_st, trivial, trivial, trivial, trivial⟩ ⟨rfl, trivial⟩
    ⟨trivial, rB_st rfl rfl rfl rfl, eB_st rfl rfl, mB_st rfl rfl, cB_st, sB_st, prO_st, trivial, trivial, trivial, cB_st, sB_st, trivial⟩ (by simp [stS, Stable, zd_]; exact ⟨rfl, rfl⟩) rfl rfl (by show [(r, (rB 2 7 8 9 _ _).ren _), (e, (eB 3 6 _).ren _), (g, (mB _ v _ 4 5).ren _), (c1, (cB _).ren _), (k, (sB _).ren _), (i, (prO P).ren _), (m, (cB _).ren _), (m + 1, (sB _).ren _)] = _; rw [rB_ren, eB_ren, mB_ren, cB_ren, sB_ren, prO_ren]; rfl)
  ·cases hs
 ·cases hs
end Go.Proofs.YtjliakjbdcplcaaGreat.Vm
end
end
section
namespace Go.Proofs.YtjliakjbdcplcaaGreat.Vm
open Go.RowKit
def rUsedQ (r : Nat) (f : Int) (h : HM) (m : Nat) : Option (Prop × SV × List Nat × List (Nat × HB)) := match h r with
 | .own t (.agg [.ptr e [], .fn fi [.ptr a [], .ptr b [], .ptr c []], .nat .i64 u, .bool w]) true => bif Nat.beq t 52 && Nat.beq fi 83 && yr_ [0, r, e, a, b, c] && ((h e).born && (h a).born && (h b).born && (h c).born) then some (True, .nat .i64 u, [r, e, a, b, c], [(r, rB e a b c u w)]) else none
 | _ => none
def rUsed : yq_ := fun args h m => match args with
 | [.ptr r []] => rUsedQ r 0 h m
 | _ => none
theorem rUsed_ok : zj_ Tryz.prog 19 rUsed := by
 refine ⟨zf_ (by kernel_rfl), fun args h m c v rd wr hs hm hc w0 M β h' w R hrd hwr hst => ?_⟩
 unfold rUsed at hs
 split at hs
 ·rename_i r
  unfold rUsedQ at hs
  split at hs
  ·rename_i t e fi a b c u w hr
   obtain ⟨hb, hs⟩ := zk_ hs
   simp only [Option.some.injEq, Prod.mk.injEq] at hs
   obtain ⟨rfl, rfl, rfl, rfl⟩ := hs
   simp only [Bool.and_eq_true] at hb
   obtain ⟨⟨⟨b1, b2⟩, hnd⟩, ⟨⟨b3, b4⟩, b5⟩, b6⟩ := hb
   have b1 := Nat.eq_of_beq_eq_true b1
   have b2 := Nat.eq_of_beq_eq_true b2
   subst b1 b2
   exact bun_ok (h := h) (m := m) [0, r, e, a, b, c] (used_lit u w) R rfl (by simp) rfl rfl hnd
    ⟨Fit.gone (by rw [R.nil0]; rfl), bun_run hr (hrd r (by simp)) rfl rfl rfl rfl, Fit.gone (by rw [hrd e (by simp)]; exact b3), Fit.gone (by rw [hrd a (by simp)]; exact b4), Fit.gone (by rw [hrd b (by simp)]; exact b5), Fit.gone (by rw [hrd c (by simp)]; exact b6), trivial⟩ hm
    (fun p hp => by cases hp) (by simp) rfl
    ⟨trivial, rB_st rfl rfl rfl rfl, trivial, trivial, trivial, trivial, trivial⟩ ⟨rfl, trivial⟩
    ⟨trivial, rB_st rfl rfl rfl rfl, trivial, trivial, trivial, trivial, trivial⟩ (by simp [Stable, zd_]) rfl rfl rfl
  ·cases hs
 ·cases hs
theorem bun_clA {ρ : Nat → Nat} {h h' : HM} {a i x n : Nat} (ha : h a = clA i n) (ea : h' a = h a) (hx : ρ x = i) : Bun1 ρ (h' a) (clA x n) := by
 show Less (h' a) (.own 22 ((SV.sl x x [] 5 0 n none).ren ρ) true)
 rw [ea, ha]
 simp only [SV.ren, hx]
 exact .same _
theorem bun_clB {ρ : Nat → Nat} {h h' : HM} {b : Nat} {v : Evi} (hb : h b = clB v) (eb : h' b = h b) : Bun1 ρ (h' b) (clB v) := by
 show Less (h' b) (.own 25 ((evS v).ren ρ) true)
 rw [eb, hb]
 exact .same _
theorem bun_clJO {ρ : Nat → Nat} {h h' : HM} {j : Nat} {s : Sta} {cf : Nat → SV} (hj : h j = .own 2 (.arr s.cells.length 1 cf) false) (hr : ∀ q, q < s.cells.length → isI .i64 (cf q) = true) (hq : s.cells = ls iOf s.cells.length cf) (ej : h' j = h j) : Bun1 ρ (h' j) (cB s) := by
 show Less (h' j) (.own 2 (.arr s.cells.length 1 (i64S s.cells)) false)
 rw [ej, hj]
 refine .val (fun β => arrCl fun q hlt => ?_) (fun n k f e => by injection e with e1 e2 e3; subst e1 e2; exact ⟨_, rfl⟩) (fun n k f e => by injection e with e1 e2 e3; subst e1 e2; exact ⟨_, rfl⟩)
 rw [isI_cl (hr q hlt)]
 unfold i64S
 rw [hq, ls_getD hlt]; rfl
def rBack : yq_ := fun args h m => match args with
 | [.ptr r []] => match h r with
  | .own t (.agg [.ptr e [], .fn fi [.ptr a [], .ptr b [], .ptr c []], .nat .i64 u, .bool w]) true => match clP h a b c with
   | some (P, v, s, i, j, ok) => bif Nat.beq t 52 && Nat.beq fi 83 && yr_ [0, r, e, a, b, c, i, j] && (h e).born then
     some (ok ∧ (∀ x ∈ P, x.ok) ∧ P.length ≤ 1000000 ∧ s.cells.length ≤ 1000000 ∧ yt_ P v s = 0, .int .i64 0, [r, e, a, b, c, i, j],
      [(r, rB m a b c 0 false), (a, clA i P.length), (b, clB v), (c, clC s j), (i, prO P), (j, cB s), (m, eB (m + 1) (m + 4) P.length), (m + 1, mB s v Ins0 (m + 2) (m + 3)), (m + 2, cB s), (m + 3, sB s), (m + 4, prO P)]) else none
   | none => none
  | _ => none
 | _ => none
theorem rBack_ok : zj_ Tryz.prog 16 rBack := by
 refine ⟨zf_ (by kernel_rfl), fun args h m c v rd wr hs hm hc w0 M β h' w R hrd hwr hst => ?_⟩
 unfold rBack at hs
 split at hs
 ·rename_i r
  split at hs
  ·rename_i t e fi a b c u w hr
   split at hs
   ·rename_i P v s i j ok hcp
    obtain ⟨hb, hs⟩ := zk_ hs
    simp only [Option.some.injEq, Prod.mk.injEq] at hs
    obtain ⟨rfl, rfl, rfl, rfl⟩ := hs
    simp only [Bool.and_eq_true] at hb
    obtain ⟨⟨⟨b1, b2⟩, hnd⟩, be⟩ := hb
    have b1 := Nat.eq_of_beq_eq_true b1
    have b2 := Nat.eq_of_beq_eq_true b2
    subst b1 b2
    obtain ⟨hs0, ok2, rg, cf, rfl, hpp, ha, hbb, hcc, hj, hq, hql⟩ := clP_val hcp
    obtain ⟨⟨hok2, hrg, hcf⟩, hP, hn, hcl, hE⟩ := hc
    have hwrm : ∀ p ∈ [(m, eB (m + 1) (m + 4) P.length), (m + 1, mB s v Ins0 (m + 2) (m + 3)), (m + 2, cB s), (m + 3, sB s), (m + 4, prO P)], h' p.1 = h p.1 := fun p hp => hwr p (.tail _ (.tail _ (.tail _ (.tail _ (.tail _ (.tail _ hp))))))
    exact bun_ok (h := h) (m := m) [0, r, e, a, b, c, i, j] (back_lit P v s u w hs0 hP hn hcl hE) R rfl (by simp) rfl rfl hnd
     ⟨Fit.gone (by rw [R.nil0]; rfl), bun_run hr (hrd r (by simp)) rfl rfl rfl rfl, Fit.gone (by rw [hrd e (by simp)]; exact be), bun_clA ha (hrd a (by simp)) rfl, bun_clB hbb (hrd b (by simp)), (bun_clC hcc hrg hq (hrd c (by simp)) rfl rfl).2, bun_prO hpp hok2 (hrd i (by simp)), bun_clJO hj hcf hql (hrd j (by simp)), trivial⟩ hm
     (fun p hp => by
      simp only [newB, List.drop, List.length_cons, List.length_nil, List.mem_cons, List.not_mem_nil, or_false] at hp
      rcases hp with rfl | rfl | rfl | rfl | rfl
      ·exact hwrm (m, eB (m + 1) (m + 4) P.length) (by simp)
      ·exact hwrm (m + 1, mB s v Ins0 (m + 2) (m + 3)) (by simp)
      ·exact hwrm (m + 2, cB s) (by simp)
      ·exact hwrm (m + 3, sB s) (by simp)
      ·exact hwrm (m + 4, prO P) (by simp)) (by simp) rfl
     ⟨trivial, rB_st rfl rfl rfl rfl, trivial, clA_st rfl, clB_st, clC_st rfl rfl, prO_st, cB_st, trivial⟩ ⟨rfl, trivial⟩
     ⟨trivial, rB_st rfl rfl rfl rfl, trivial, clA_st rfl, clB_st, clC_st rfl rfl, prO_st, cB_st, eB_st rfl rfl, mB_st rfl rfl, cB_st, sB_st, prO_st, trivial⟩ trivial rfl rfl (by
      show [(r, (rB 8 3 4 5 0 false).ren _), (a, (clA 6 _).ren _), (b, (clB v).ren _), (c, (clC s 7).ren _), (i, (prO P).ren _), (j, (cB s).ren _), (m, (eB 9 12 _).ren _), (m + 1, (mB s v Ins0 10 11).ren _), (m + 2, (cB s).ren _), (m + 3, (sB s).ren _), (m + 4, (prO P).ren _)] = _
      rw [rB_ren, eB_ren, mB_ren, cB_ren, sB_ren, prO_ren]
      simp [xo_, clA, clB, clC, HB.ren, SV.ren, renL, fsS, evS])
   ·cases hs
  ·cases hs
 ·cases hs
theorem eqI64_lit (xs ys : List Int) (p1 p2 : Nat) (hx : xs.length ≤ 281474976710656) : zo_ Tryz.prog 44 [.sl 1 2 [] 1 0 xs.length (some p1), .sl 3 4 [] 1 0 ys.length (some p2)] [.gone, .gone, .ro (.arr xs.length 1 (i64S xs)), .gone, .ro (.arr ys.length 1 (i64S ys))] (.bool (eqL xs ys)) [.gone] := by
 refine ze_ (fn := Tryz.f44) 5 26 0 rfl rfl rfl rfl rfl u7_ rfl fun w0 M E hro => ?_
 repeat' (first | refine Ctl.h ?_ | ((with_reducible intro hif); first | (focus (cases hif; done)) | ((try simp only [JH] at hif); try (exfalso; omega))) | ((with_reducible first | apply J22 zq_ za_ | apply J23 fol zq_ za_ | apply J24); (·rfl); (· exact k20_); (try kernel_rfl); try exact yk_) | fail)
 ·have hne : xs ≠ ys := fun e => hif (by rw [e])
  apply At.endsRet za_ (fn := Tryz.f44) (rs := [.tmp 4]) Anc.refl hro (lb_ rfl) rfl
  ·exact k11_
  ·exact yl_
  ·exact k6_
  ·rfl
  ·exact xb_
  ·exact zs_
  ·rw [eqL_false hne]; exact fun β => rfl
  ·exact xb_
 ·refine WF.loopAt (fun j => j ≤ xs.length ∧ ∀ q, q < j → xs.getD q 0 = ys.getD q 0) (fun j => [(0, .sl 1 2 [] 1 0 xs.length (some p1)), (1, .sl 3 4 [] 1 0 ys.length (some p2)), (12, .nat .i64 xs.length), (13, .nat .i64 j)]) (fun j => [.gone, .gone, .ro (.arr xs.length 1 (i64S xs)), .gone, .ro (.arr ys.length 1 (i64S ys))]) (fun j => xs.length - j) 0 ⟨Nat.zero_le _, fun q hq => absurd hq (Nat.not_lt_zero q)⟩ ?_ ?_ rfl ?_ ?_ rfl ?_
  ·exact k5_
  ·exact k6_
  ·exact xb_
  ·exact xb_
  have hlen := hif
  rintro j ⟨hj, heq⟩
  repeat' (first | refine Ctl.h ?_ | ((with_reducible intro hif); first | (focus (cases hif; done)) | ((try simp only [JH] at hif); try (exfalso; omega))) | ((with_reducible first | apply J22 zq_ za_ | apply J23 fol zq_ za_ | apply J24); (·rfl); (· (simp only [push_cast, ↓JP, Nat.reduceAdd, Nat.reduceEqDiff, Nat.reduceLT, Nat.reduceMul, Nat.reduceLeDiff, reduceCtorEq, reduceIte, i64S, i64S, inN]; rfl)); (try kernel_rfl); try exact k76_) | fail)
  ·have hne : xs ≠ ys := by rintro rfl; simp at hif
   apply At.endsRet za_ (fn := Tryz.f44) (rs := [.tmp 4]) Anc.refl hro (lb_ rfl) rfl
   ·exact k11_
   ·exact yl_
   ·exact k6_
   ·rfl
   ·exact xb_
   ·exact zs_
   ·rw [eqL_false hne]; exact fun β => rfl
   ·exact xb_
  ·have hq : xs.getD j 0 = ys.getD j 0 := hif
   refine At.next (j + 1) ?_ ?_ ?_ rfl ?_ ?_ rfl
   ·exact k157_
   ·exact k5_
   ·exact k6_
   ·exact xb_
   ·exact xb_
  ·have hjn : j = xs.length := by omega
   subst hjn
   have he : xs = ys := ext_getD 0 hlen heq
   apply At.endsRet za_ (fn := Tryz.f44) (rs := [.tmp 4]) Anc.refl hro (lb_ rfl) rfl
   ·exact k11_
   ·exact yl_
   ·exact k6_
   ·rfl
   ·exact xb_
   ·exact zs_
   ·rw [eqL_true he]; exact fun β => rfl
   ·exact xb_
def sEqI64 : yq_ := fun args h m => match args with
 | [v1, v2] => match xa_ h 1 (.tup []) v1, xa_ h 1 (.tup []) v2 with
  | some (c1, n1, f1, r1), some (c2, n2, f2, r2) => some (c1 ∧ c2 ∧ (∀ q, q < n1 → isI .i64 (f1 q) = true) ∧ (∀ q, q < n2 → isI .i64 (f2 q) = true) ∧ ((ls iOf n1 f1).length ≤ 281474976710656), .bool (eqL (ls iOf n1 f1) (ls iOf n2 f2)), r1 ++ r2, [])
  | _, _ => none
 | _ => none
theorem sEqI64_ok : zj_ Tryz.prog 44 sEqI64 := by
 refine ⟨zf_ (by kernel_rfl), fun args h m c v rd wr hs hm hc w0 M β h' w R hrd hwr hst => ?_⟩
 unfold sEqI64 at hs
 split at hs
 ·rename_i v1 v2
  split at hs
  ·rename_i c1 n1 f1 r1 c2 n2 f2 r2 a1 a2
   simp only [Option.some.injEq, Prod.mk.injEq] at hs
   obtain ⟨rfl, rfl, rfl, rfl⟩ := hs
   obtain ⟨k1, k2, g1, g2, y1⟩ := hc
   obtain ⟨A1, p1, d1, e1, t1⟩ := zg_ R a1 k1 (fun i hi => hrd i (List.mem_append_left _ hi)) (by omega)
   obtain ⟨A2, p2, d2, e2, t2⟩ := zg_ R a2 k2 (fun i hi => hrd i (List.mem_append_right _ hi)) (by omega)
   refine yf_ (views := [⟨1, (ls iOf n1 f1).length, i64S (ls iOf n1 f1), A1, p1⟩, ⟨1, (ls iOf n2 f2).length, i64S (ls iOf n2 f2), A2, p2⟩]) (eqI64_lit (ls iOf n1 f1) (ls iOf n2 f2) p1 p2 y1) ?_ R hm hwr ?_ ?_ ?_
   ·intro x hx
    simp only [List.mem_cons, List.not_mem_nil, or_false] at hx
    rcases hx with rfl | rfl
    ·exact z0_ t1 e1 g1
    ·exact z0_ t2 e2 g2
   ·intro β1 hv
    simp only [Vd, zb_, and_true] at hv
    obtain ⟨z1, z2⟩ := hv
    simp only [denL, z7_, z6_, z5_, zr_, zb_, z1, z2, d1, d2]
   ·exact xb_
   ·exact xb_
  ·cases hs
 ·cases hs
end Go.Proofs.YtjliakjbdcplcaaGreat.Vm
end

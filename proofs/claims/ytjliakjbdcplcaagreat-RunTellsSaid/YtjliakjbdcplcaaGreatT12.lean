import Derived.Test.YtjliakjbdcplcaaGreatT4
import Derived.Test.YtjliakjbdcplcaaGreatT5
import Derived.Test.YtjliakjbdcplcaaGreatT6
import Derived.Test.YtjliakjbdcplcaaGreatT8
import Derived.Test.YtjliakjbdcplcaaGreatT9
import Derived.Test.YtjliakjbdcplcaaGreatT10
import Derived.Test.YtjliakjbdcplcaaGreatT11
set_option linter.unusedSimpArgs false
set_option linter.unusedVariables false
set_option maxRecDepth 100000
set_option maxHeartbeats 4000000
section
namespace Go.Proofs.YtjliakjbdcplcaaGreat.Vm
theorem u15_ {P : Prop} (h : P := by simp only [zd_, Stable, hp, i64S, prS, yo_, zn_, sndS, evS, sr, csl, ssl, y2_, nilS, cRf, sRf, trO, prT, cB, sB, HB.stable]; simp [HB.born]) : P := h
theorem u16_ {P : Prop} (h : P := by simp only [zd_, Stable, hp, i64S, prS, yo_, zn_, sndS, stS, evS, macS, mB, cB, sB, HB.stable]; simp [HB.born]) : P := h
theorem u17_ {P : Prop} (h : P := by simp only [zd_, Stable, hp, i64S, prS, yo_, zn_, sndS, stS, evS, macS, mB, cB, sB, eB, prO, HB.stable]; simp [HB.born]) : P := h
theorem u18_ {P : Prop} (h : P := by simp only [zd_, Stable, hp, i64S, prS, yo_, zn_, sndS, stS, evS, macS, mB, cB, sB, eS, prO, prR, HB.stable]; simp [HB.born]) : P := h
theorem u19_ {P : Prop} (h : P := by simp only [zd_, Stable, hp, i64S, prS, yo_, zn_, sndS, stS, evS, macS, mB, cB, sB, eB, prO, prR, HB.stable]; simp [HB.born]) : P := h
theorem xd_ {P : Prop} (h : P := by (repeat' (first | exact trivial | exact rfl | assumption | apply Stable.ite | apply And.intro | intro _ | (simp only [Stable, zd_, i64S, prS, yo_, zn_, sndS, evS, sr, csl, ssl, y2_, nilS, cRf, sRf, trO, prT, cB, sB, HB.stable]; done)))) : P := h
theorem k113_ {P : Prop} (h : P := by (repeat' (first | exact trivial | exact rfl | assumption | apply Stable.ite | apply And.intro | intro _ | (simp only [Stable, zd_, i64S, prS, yo_, zn_, sndS, stS, evS, macS, mB, cB, sB, HB.stable]; done)))) : P := h
theorem k114_ {P : Prop} (h : P := by (repeat' (first | exact trivial | exact rfl | assumption | apply Stable.ite | apply And.intro | intro _ | (simp only [Stable, zd_, i64S, prS, yo_, zn_, sndS, stS, evS, macS, mB, cB, sB, eB, prO, HB.stable]; done)))) : P := h
theorem k115_ {P : Prop} (h : P := by (repeat' (first | exact trivial | exact rfl | assumption | apply Stable.ite | apply And.intro | intro _ | (simp only [Stable, zd_, i64S, prS, yo_, zn_, sndS, stS, evS, macS, mB, cB, sB, eS, prO, prR, HB.stable]; done)))) : P := h
theorem k116_ {P : Prop} (h : P := by (repeat' (first | exact trivial | exact rfl | assumption | apply Stable.ite | apply And.intro | intro _ | (simp only [Stable, zd_, i64S, prS, yo_, zn_, sndS, stS, evS, macS, mB, cB, sB, eB, prO, prR, HB.stable]; done)))) : P := h
theorem k117_ {P : Prop} (h : P := by (simp only [push_cast, ↓JP, Nat.reduceAdd, Nat.reduceEqDiff, Nat.reduceLT, Nat.reduceMul, Nat.reduceLeDiff, reduceCtorEq, reduceIte, ↓JK, h1, h2]; rfl)) : P := h
theorem k118_ {P : Prop} (h : P := by (simp only [push_cast, ↓JP, Nat.reduceAdd, Nat.reduceEqDiff, Nat.reduceLT, Nat.reduceMul, Nat.reduceLeDiff, reduceCtorEq, reduceIte, ↓JK, h1]; rfl)) : P := h
theorem k119_ {P : Prop} (h : P := by (first | exact True.intro | ((try simp only [JS, implies_true, forall_const, z9_, z2_, kndOf, inR, inN]); (first | first | omega | exact ⟨hP, hn⟩ | (repeat' (first | assumption | exact True.intro | omega | apply And.intro))); done))) : P := h
theorem k120_ {P : Prop} (h : P := by (simp only [push_cast, ↓JP, Nat.reduceAdd, Nat.reduceEqDiff, Nat.reduceLT, Nat.reduceMul, Nat.reduceLeDiff, reduceCtorEq, reduceIte, ↓JK, JM, cOp, sCheck, sVRight, sSRight, sCopied, JE, inR, inN, q1, q2, q3]; rfl)) : P := h
theorem k121_ {P : Prop} (h : P := by (first | exact True.intro | ((try simp only [JS, implies_true, forall_const, z9_, z2_, kndOf, inR, inN]); (first | first | omega | exact ⟨hP, hn2⟩ | (repeat' (first | assumption | exact True.intro | omega | apply And.intro))); done))) : P := h
theorem k122_ {P : Prop} (h : P := by (simp only [push_cast, ↓JP, Nat.reduceAdd, Nat.reduceEqDiff, Nat.reduceLT, Nat.reduceMul, Nat.reduceLeDiff, reduceCtorEq, reduceIte, ↓JK, JM, JE, eS, cEn, eN, inR, inN]; rfl)) : P := h
theorem k123_ {P : Prop} (h : P := by (simp only [push_cast, ↓JP, Nat.reduceAdd, Nat.reduceEqDiff, Nat.reduceLT, Nat.reduceMul, Nat.reduceLeDiff, reduceCtorEq, reduceIte, ↓JK, inR, inN, h1, h2]; rfl)) : P := h
end Go.Proofs.YtjliakjbdcplcaaGreat.Vm
end
section
open Go.Proofs.YtjliakjbdcplcaaGreat.Vm Go.RowKit
attribute [local push_cast] prS zn_ i64S nav_ins xz_ xy_ xx_ xw_ xv_ nav_snd xu_ xt_ xs_ z4_ yh_ yn_ yg_ zw_ zy_ iOf
section
namespace Go.Proofs.YtjliakjbdcplcaaGreat.Vm
open Go.RowKit
def fuelF (f : Int) : Int := if 600 < f ∧ f ≤ 4096 then 600 else f
theorem fuel_lit (P : List Ins) (v : Evi) (t s q o y d f : Int) (cs : List Int) (p1 p2 : Nat) : zo_ Tryz.prog 46 [.agg [.sl 1 2 [] 5 0 P.length (some p1), .agg [.int .u64 v.seed, .int .i64 v.process, .int .i64 v.ports, .int .i64 v.look, .int .i64 v.now], .agg [.agg [.int .i64 t, .int .i64 s, .int .i64 q], .int .i64 o, .int .i64 y], .sl 3 4 [] 1 0 cs.length (some p2), .int .i64 d, .int .i64 f]] [.gone, .gone, .ro (.arr P.length 5 (prS P)), .gone, .ro (.arr cs.length 1 (i64S cs))] (.int .i64 (fuelF f)) [.gone] := by
 by_cases h1 : 600 < f
 ·by_cases h2 : f ≤ 4096
  ·rw [show fuelF f = 600 from if_pos ⟨h1, h2⟩]
   refine ze_ (fn := Tryz.f46) 5 13 0 rfl rfl rfl rfl rfl u15_ rfl fun w0 M E hro => ?_
   repeat' (first | refine Ctl.h ?_ | ((with_reducible intro hif); first | (focus (cases hif; done)) | ((try simp only [JH] at hif); try (exfalso; omega))) | ((with_reducible first | apply J22 zq_ za_ | apply J23 fol zq_ za_ | apply J24); (·rfl); (· exact k117_); (try kernel_rfl); try exact yk_) | fail)
   apply At.endsRet za_ (fn := Tryz.f46) (rs := [.tmp 2]) Anc.refl hro (lb_ rfl) rfl
   ·exact yi_
   ·exact yl_
   ·exact k6_
   ·rfl
   ·exact xd_
   ·exact zs_
   ·exact fun β => rfl
   ·exact xd_
  ·rw [show fuelF f = f from if_neg (fun h => h2 h.2)]
   refine ze_ (fn := Tryz.f46) 5 13 0 rfl rfl rfl rfl rfl u15_ rfl fun w0 M E hro => ?_
   repeat' (first | refine Ctl.h ?_ | ((with_reducible intro hif); first | (focus (cases hif; done)) | ((try simp only [JH] at hif); try (exfalso; omega))) | ((with_reducible first | apply J22 zq_ za_ | apply J23 fol zq_ za_ | apply J24); (·rfl); (· exact k117_); (try kernel_rfl); try exact yk_) | fail)
   apply At.endsRet za_ (fn := Tryz.f46) (rs := [.tmp 2]) Anc.refl hro (lb_ rfl) rfl
   ·exact yi_
   ·exact yl_
   ·exact k6_
   ·rfl
   ·exact xd_
   ·exact zs_
   ·exact fun β => rfl
   ·exact xd_
 ·rw [show fuelF f = f from if_neg (fun h => h1 h.1)]
  refine ze_ (fn := Tryz.f46) 5 13 0 rfl rfl rfl rfl rfl u15_ rfl fun w0 M E hro => ?_
  repeat' (first | refine Ctl.h ?_ | ((with_reducible intro hif); first | (focus (cases hif; done)) | ((try simp only [JH] at hif); try (exfalso; omega))) | ((with_reducible first | apply J22 zq_ za_ | apply J23 fol zq_ za_ | apply J24); (·rfl); (· exact k118_); (try kernel_rfl); try exact yk_) | fail)
  apply At.endsRet za_ (fn := Tryz.f46) (rs := [.tmp 2]) Anc.refl hro (lb_ rfl) rfl
  ·exact yi_
  ·exact yl_
  ·exact k6_
  ·rfl
  ·exact xd_
  ·exact zs_
  ·exact fun β => rfl
  ·exact xd_
theorem small_lit (P : List Ins) (v : Evi) (t s q o y d f : Int) (cs : List Int) (p1 p2 : Nat) : zo_ Tryz.prog 33 [.agg [.sl 1 2 [] 5 0 P.length (some p1), .agg [.int .u64 v.seed, .int .i64 v.process, .int .i64 v.ports, .int .i64 v.look, .int .i64 v.now], .agg [.agg [.int .i64 t, .int .i64 s, .int .i64 q], .int .i64 o, .int .i64 y], .sl 3 4 [] 1 0 cs.length (some p2), .int .i64 d, .int .i64 f]] [.gone, .gone, .ro (.arr P.length 5 (prS P)), .gone, .ro (.arr cs.length 1 (i64S cs))] (.bool (decide (P.length ≤ 60) && decide (cs.length ≤ 1100))) [.gone] := by
 by_cases h1 : P.length ≤ 60
 ·by_cases h2 : cs.length ≤ 1100
  ·rw [decide_eq_true h1, decide_eq_true h2]
   refine ze_ (fn := Tryz.f33) 5 13 0 rfl rfl rfl rfl rfl u15_ rfl fun w0 M E hro => ?_
   repeat' (first | refine Ctl.h ?_ | ((with_reducible intro hif); first | (focus (cases hif; done)) | ((try simp only [JH] at hif); try (exfalso; omega))) | ((with_reducible first | apply J22 zq_ za_ | apply J23 fol zq_ za_ | apply J24); (·rfl); (· exact k117_); (try kernel_rfl); try exact yk_) | fail)
   apply At.endsRet za_ (fn := Tryz.f33) (rs := [.tmp 2]) Anc.refl hro (lb_ rfl) rfl
   ·exact yi_
   ·exact yl_
   ·exact k6_
   ·rfl
   ·exact xd_
   ·exact zs_
   ·exact fun β => rfl
   ·exact xd_
  ·rw [decide_eq_true h1, decide_eq_false h2]
   refine ze_ (fn := Tryz.f33) 5 13 0 rfl rfl rfl rfl rfl u15_ rfl fun w0 M E hro => ?_
   repeat' (first | refine Ctl.h ?_ | ((with_reducible intro hif); first | (focus (cases hif; done)) | ((try simp only [JH] at hif); try (exfalso; omega))) | ((with_reducible first | apply J22 zq_ za_ | apply J23 fol zq_ za_ | apply J24); (·rfl); (· exact k117_); (try kernel_rfl); try exact yk_) | fail)
   apply At.endsRet za_ (fn := Tryz.f33) (rs := [.tmp 2]) Anc.refl hro (lb_ rfl) rfl
   ·exact yi_
   ·exact yl_
   ·exact k6_
   ·rfl
   ·exact xd_
   ·exact zs_
   ·exact fun β => rfl
   ·exact xd_
 ·rw [decide_eq_false h1]
  refine ze_ (fn := Tryz.f33) 5 13 0 rfl rfl rfl rfl rfl u15_ rfl fun w0 M E hro => ?_
  repeat' (first | refine Ctl.h ?_ | ((with_reducible intro hif); first | (focus (cases hif; done)) | ((try simp only [JH] at hif); try (exfalso; omega))) | ((with_reducible first | apply J22 zq_ za_ | apply J23 fol zq_ za_ | apply J24); (·rfl); (· exact k118_); (try kernel_rfl); try exact yk_) | fail)
  apply At.endsRet za_ (fn := Tryz.f33) (rs := [.tmp 2]) Anc.refl hro (lb_ rfl) rfl
  ·exact yi_
  ·exact yl_
  ·exact k6_
  ·rfl
  ·exact xd_
  ·exact zs_
  ·exact fun β => rfl
  ·exact xd_
def sCFuel : yq_ := fun args h m => match args with
 | [.agg [v1, .agg [v2, v3, v4, v5, v6], .agg [.agg [v7, v8, v9], v10, v11], v12, v13, v14]] => match xa_ h 5 (.tup []) v1, xa_ h 1 (.tup []) v12 with
  | some (c1, n1, f1, r1), some (c12, n12, f12, r12) => bif isI .u64 v2 && isI .i64 v3 && isI .i64 v4 && isI .i64 v5 && isI .i64 v6 && isI .i64 v7 && isI .i64 v8 && isI .i64 v9 && isI .i64 v10 && isI .i64 v11 && isI .i64 v13 && isI .i64 v14 then some (c1 ∧ c12 ∧ (∀ q, q < n1 → isIns (f1 q) = true) ∧ (∀ q, q < n12 → isI .i64 (f12 q) = true), .int .i64 (fuelF (iOf v14)), r1 ++ r12, []) else none
  | _, _ => none
 | _ => none
theorem sCFuel_ok : zj_ Tryz.prog 46 sCFuel := by
 refine ⟨zf_ (by kernel_rfl), fun args h m c v rd wr hs hm hc w0 M β h' w R hrd hwr hst => ?_⟩
 unfold sCFuel at hs
 split at hs
 ·rename_i v1 v2 v3 v4 v5 v6 v7 v8 v9 v10 v11 v12 v13 v14
  split at hs
  ·rename_i c1 n1 f1 r1 c12 n12 f12 r12 a1 a12
   obtain ⟨hb, hs⟩ := zk_ hs
   simp only [Option.some.injEq, Prod.mk.injEq] at hs
   obtain ⟨rfl, rfl, rfl, rfl⟩ := hs
   simp only [Bool.and_eq_true] at hb
   obtain ⟨⟨⟨⟨⟨⟨⟨⟨⟨⟨⟨b2, b3⟩, b4⟩, b5⟩, b6⟩, b7⟩, b8⟩, b9⟩, b10⟩, b11⟩, b13⟩, b14⟩ := hb
   obtain ⟨k1, k12, g1, g12⟩ := hc
   obtain ⟨A1, p1, d1, e1, t1⟩ := zg_ R a1 k1 (fun i hi => hrd i (List.mem_append_left _ hi)) (by omega)
   obtain ⟨A12, p12, d12, e12, t12⟩ := zg_ R a12 k12 (fun i hi => hrd i (List.mem_append_right _ hi)) (by omega)
   refine yf_ (views := [⟨5, (ls zl_ n1 f1).length, prS (ls zl_ n1 f1), A1, p1⟩, ⟨1, (ls iOf n12 f12).length, i64S (ls iOf n12 f12), A12, p12⟩]) (fuel_lit (ls zl_ n1 f1) ⟨(iOf v2), (iOf v3), (iOf v4), (iOf v5), (iOf v6)⟩ (iOf v7) (iOf v8) (iOf v9) (iOf v10) (iOf v11) (iOf v13) (iOf v14) (ls iOf n12 f12) p1 p12) ?_ R hm hwr ?_ ?_ ?_
   ·intro x hx
    simp only [List.mem_cons, List.not_mem_nil, or_false] at hx
    rcases hx with rfl | rfl
    ·exact xn_ t1 e1 g1
    ·exact z0_ t12 e12 g12
   ·intro β1 hv
    simp only [Vd, zb_, and_true] at hv
    obtain ⟨z1, z12⟩ := hv
    simp only [denL, z7_, z6_, z5_, zr_, zb_, yo_, evS, sr, csl, ssl, z1, z12, d1, d12, zc_ b2, zc_ b3, zc_ b4, zc_ b5, zc_ b6, zc_ b7, zc_ b8, zc_ b9, zc_ b10, zc_ b11, zc_ b13, zc_ b14]
   ·exact xd_
   ·exact xd_
  ·cases hs
 ·cases hs
def sCSmall : yq_ := fun args h m => match args with
 | [.agg [v1, .agg [v2, v3, v4, v5, v6], .agg [.agg [v7, v8, v9], v10, v11], v12, v13, v14]] => match xa_ h 5 (.tup []) v1, xa_ h 1 (.tup []) v12 with
  | some (c1, n1, f1, r1), some (c12, n12, f12, r12) => bif isI .u64 v2 && isI .i64 v3 && isI .i64 v4 && isI .i64 v5 && isI .i64 v6 && isI .i64 v7 && isI .i64 v8 && isI .i64 v9 && isI .i64 v10 && isI .i64 v11 && isI .i64 v13 && isI .i64 v14 then some (c1 ∧ c12 ∧ (∀ q, q < n1 → isIns (f1 q) = true) ∧ (∀ q, q < n12 → isI .i64 (f12 q) = true), .bool (decide ((ls zl_ n1 f1).length ≤ 60) && decide ((ls iOf n12 f12).length ≤ 1100)), r1 ++ r12, []) else none
  | _, _ => none
 | _ => none
theorem sCSmall_ok : zj_ Tryz.prog 33 sCSmall := by
 refine ⟨zf_ (by kernel_rfl), fun args h m c v rd wr hs hm hc w0 M β h' w R hrd hwr hst => ?_⟩
 unfold sCSmall at hs
 split at hs
 ·rename_i v1 v2 v3 v4 v5 v6 v7 v8 v9 v10 v11 v12 v13 v14
  split at hs
  ·rename_i c1 n1 f1 r1 c12 n12 f12 r12 a1 a12
   obtain ⟨hb, hs⟩ := zk_ hs
   simp only [Option.some.injEq, Prod.mk.injEq] at hs
   obtain ⟨rfl, rfl, rfl, rfl⟩ := hs
   simp only [Bool.and_eq_true] at hb
   obtain ⟨⟨⟨⟨⟨⟨⟨⟨⟨⟨⟨b2, b3⟩, b4⟩, b5⟩, b6⟩, b7⟩, b8⟩, b9⟩, b10⟩, b11⟩, b13⟩, b14⟩ := hb
   obtain ⟨k1, k12, g1, g12⟩ := hc
   obtain ⟨A1, p1, d1, e1, t1⟩ := zg_ R a1 k1 (fun i hi => hrd i (List.mem_append_left _ hi)) (by omega)
   obtain ⟨A12, p12, d12, e12, t12⟩ := zg_ R a12 k12 (fun i hi => hrd i (List.mem_append_right _ hi)) (by omega)
   refine yf_ (views := [⟨5, (ls zl_ n1 f1).length, prS (ls zl_ n1 f1), A1, p1⟩, ⟨1, (ls iOf n12 f12).length, i64S (ls iOf n12 f12), A12, p12⟩]) (small_lit (ls zl_ n1 f1) ⟨(iOf v2), (iOf v3), (iOf v4), (iOf v5), (iOf v6)⟩ (iOf v7) (iOf v8) (iOf v9) (iOf v10) (iOf v11) (iOf v13) (iOf v14) (ls iOf n12 f12) p1 p12) ?_ R hm hwr ?_ ?_ ?_
   ·intro x hx
    simp only [List.mem_cons, List.not_mem_nil, or_false] at hx
    rcases hx with rfl | rfl
    ·exact xn_ t1 e1 g1
    ·exact z0_ t12 e12 g12
   ·intro β1 hv
    simp only [Vd, zb_, and_true] at hv
    obtain ⟨z1, z12⟩ := hv
    simp only [denL, z7_, z6_, z5_, zr_, zb_, yo_, evS, sr, csl, ssl, z1, z12, d1, d12, zc_ b2, zc_ b3, zc_ b4, zc_ b5, zc_ b6, zc_ b7, zc_ b8, zc_ b9, zc_ b10, zc_ b11, zc_ b13, zc_ b14]
   ·exact xd_
   ·exact xd_
  ·cases hs
 ·cases hs
def sWhole : yq_ := fun args h m => match args with
 | [v1, .agg [v2, v3, v4, v5, v6], v7, v8, v9, v10, v11, v12] => match xa_ h 5 (.tup []) v1, xa_ h 1 (.tup []) v10 with
  | some (c1, n1, f1, r1), some (c10, n10, f10, r10) => bif isI .u64 v2 && isI .i64 v3 && isI .i64 v4 && isI .i64 v5 && isI .i64 v6 && isI .i64 v7 && isI .i64 v8 && isI .i64 v9 && isI .i64 v11 && isI .i64 v12 then some (c1 ∧ c10 ∧ (∀ q, q < n1 → isIns (f1 q) = true) ∧ (∀ q, q < n10 → isI .i64 (f10 q) = true) ∧ ((∀ x ∈ (ls zl_ n1 f1), x.ok)) ∧ (n1 ≤ 1000000) ∧ (n10 ≤ 1000000) ∧ ((∀ k, R64 ((ls iOf n10 f10).getD k 0))) ∧ (R64 (iOf v7)) ∧ (R64 (iOf v8)) ∧ (R64 (iOf v9)), .agg [.sl m m [] 1 0 (y9_ (ls zl_ n1 f1) ⟨(iOf v2), (iOf v3), (iOf v4), (iOf v5), (iOf v6)⟩ (ys_ (iOf v7) (iOf v8) (iOf v9) (ls iOf n10 f10) (iOf v11)) (iOf v12)).tr.length none, .int .i64 (y9_ (ls zl_ n1 f1) ⟨(iOf v2), (iOf v3), (iOf v4), (iOf v5), (iOf v6)⟩ (ys_ (iOf v7) (iOf v8) (iOf v9) (ls iOf n10 f10) (iOf v11)) (iOf v12)).at_, .int .i64 (y9_ (ls zl_ n1 f1) ⟨(iOf v2), (iOf v3), (iOf v4), (iOf v5), (iOf v6)⟩ (ys_ (iOf v7) (iOf v8) (iOf v9) (ls iOf n10 f10) (iOf v11)) (iOf v12)).bad, sr (y9_ (ls zl_ n1 f1) ⟨(iOf v2), (iOf v3), (iOf v4), (iOf v5), (iOf v6)⟩ (ys_ (iOf v7) (iOf v8) (iOf v9) (ls iOf n10 f10) (iOf v11)) (iOf v12)).s (.sl (m + 1) (m + 1) [] 1 0 (y9_ (ls zl_ n1 f1) ⟨(iOf v2), (iOf v3), (iOf v4), (iOf v5), (iOf v6)⟩ (ys_ (iOf v7) (iOf v8) (iOf v9) (ls iOf n10 f10) (iOf v11)) (iOf v12)).s.cells.length none) (.sl (m + 2) (m + 2) [] 3 0 (y9_ (ls zl_ n1 f1) ⟨(iOf v2), (iOf v3), (iOf v4), (iOf v5), (iOf v6)⟩ (ys_ (iOf v7) (iOf v8) (iOf v9) (ls iOf n10 f10) (iOf v11)) (iOf v12)).s.sends.length none)], r1 ++ r10, [(m, trO (y9_ (ls zl_ n1 f1) ⟨(iOf v2), (iOf v3), (iOf v4), (iOf v5), (iOf v6)⟩ (ys_ (iOf v7) (iOf v8) (iOf v9) (ls iOf n10 f10) (iOf v11)) (iOf v12)).tr), (m + 1, cRf (y9_ (ls zl_ n1 f1) ⟨(iOf v2), (iOf v3), (iOf v4), (iOf v5), (iOf v6)⟩ (ys_ (iOf v7) (iOf v8) (iOf v9) (ls iOf n10 f10) (iOf v11)) (iOf v12)).s.cells), (m + 2, sRf (y9_ (ls zl_ n1 f1) ⟨(iOf v2), (iOf v3), (iOf v4), (iOf v5), (iOf v6)⟩ (ys_ (iOf v7) (iOf v8) (iOf v9) (ls iOf n10 f10) (iOf v11)) (iOf v12)).s.sends)]) else none
  | _, _ => none
 | _ => none
theorem sWhole_ok : zj_ Tryz.prog 87 sWhole := by
 refine ⟨zf_ (by kernel_rfl), fun args h m c v rd wr hs hm hc w0 M β h' w R hrd hwr hst => ?_⟩
 unfold sWhole at hs
 split at hs
 ·rename_i v1 v2 v3 v4 v5 v6 v7 v8 v9 v10 v11 v12
  split at hs
  ·rename_i c1 n1 f1 r1 c10 n10 f10 r10 a1 a10
   obtain ⟨hb, hs⟩ := zk_ hs
   simp only [Option.some.injEq, Prod.mk.injEq] at hs
   obtain ⟨rfl, rfl, rfl, rfl⟩ := hs
   simp only [Bool.and_eq_true] at hb
   obtain ⟨⟨⟨⟨⟨⟨⟨⟨⟨b2, b3⟩, b4⟩, b5⟩, b6⟩, b7⟩, b8⟩, b9⟩, b11⟩, b12⟩ := hb
   obtain ⟨k1, k10, g1, g10, y1, y2, y3, y4, y5, y6, y7⟩ := hc
   obtain ⟨A1, p1, d1, e1, t1⟩ := zg_ R a1 k1 (fun i hi => hrd i (List.mem_append_left _ hi)) (by omega)
   obtain ⟨A10, p10, d10, e10, t10⟩ := zg_ R a10 k10 (fun i hi => hrd i (List.mem_append_right _ hi)) (by omega)
   refine yf_ (views := [⟨5, (ls zl_ n1 f1).length, prS (ls zl_ n1 f1), A1, p1⟩, ⟨1, (ls iOf n10 f10).length, i64S (ls iOf n10 f10), A10, p10⟩]) (whole_lit (ls zl_ n1 f1) ⟨(iOf v2), (iOf v3), (iOf v4), (iOf v5), (iOf v6)⟩ (iOf v7) (iOf v8) (iOf v9) (iOf v11) (iOf v12) (ls iOf n10 f10) p1 p10 y1 (by rw [zb_]; exact y2) (by rw [zb_]; exact y3) y4 y5 y6 y7 _ rfl) ?_ R hm hwr ?_ ?_ ?_
   ·intro x hx
    simp only [List.mem_cons, List.not_mem_nil, or_false] at hx
    rcases hx with rfl | rfl
    ·exact xn_ t1 e1 g1
    ·exact z0_ t10 e10 g10
   ·intro β1 hv
    simp only [Vd, zb_, and_true] at hv
    obtain ⟨z1, z10⟩ := hv
    simp only [denL, z7_, z6_, z5_, zr_, zb_, yo_, evS, sr, csl, ssl, z1, z10, d1, d10, zc_ b2, zc_ b3, zc_ b4, zc_ b5, zc_ b6, zc_ b7, zc_ b8, zc_ b9, zc_ b11, zc_ b12]
   ·exact xd_
   ·exact xd_
  ·cases hs
 ·cases hs
def cTw : FuncId → Option yq_ := y3_ [(37, sTh14), (46, sCFuel), (87, sWhole)]
theorem cTw_ok : ∀ f S, cTw f = some S → zj_ Tryz.prog f S := zp_ ⟨sTh14_ok, sCFuel_ok, sWhole_ok, trivial⟩
theorem cwhole_lit (P : List Ins) (v : Evi) (t s q o y d f : Int) (cs : List Int) (p1 p2 : Nat) (hok : ∀ x ∈ P, x.ok) (hn : P.length ≤ 1000000) (hc : cs.length ≤ 1000000) (hw : ∀ k, R64 (cs.getD k 0)) (hy : R64 y) (ht : R64 t) (hs : R64 s) (R : RR) (hR : y9_ P v (ys_ y t s cs d) (fuelF f) = R) : zo_ Tryz.prog 45 [.agg [.sl 1 2 [] 5 0 P.length (some p1), .agg [.int .u64 v.seed, .int .i64 v.process, .int .i64 v.ports, .int .i64 v.look, .int .i64 v.now], .agg [.agg [.int .i64 t, .int .i64 s, .int .i64 q], .int .i64 o, .int .i64 y], .sl 3 4 [] 1 0 cs.length (some p2), .int .i64 d, .int .i64 f]] [.gone, .gone, .ro (.arr P.length 5 (prS P)), .gone, .ro (.arr cs.length 1 (i64S cs))]
  (.agg [.sl 5 5 [] 1 0 R.tr.length none, .int .i64 R.at_, .int .i64 R.bad, sr R.s (.sl 6 6 [] 1 0 R.s.cells.length none) (.sl 7 7 [] 3 0 R.s.sends.length none)]) [.gone, .gone, .gone, .gone, .gone, trO R.tr, cRf R.s.cells, sRf R.s.sends] := by
 refine ze_ (fn := Tryz.f45) 5 26 0 rfl rfl rfl rfl rfl u15_ rfl fun w0 M E hro => ?_
 repeat' (first | refine Ctl.h ?_ | ((with_reducible intro hif); first | (focus (cases hif; done)) | ((try simp only [JH] at hif); try (exfalso; omega))) | ((with_reducible first | apply J22 cTw_ok za_ | apply J23 fol cTw_ok za_ | apply J24); (·rfl); (· (simp only [push_cast, ↓JP, Nat.reduceAdd, Nat.reduceEqDiff, Nat.reduceLT, Nat.reduceMul, Nat.reduceLeDiff, reduceCtorEq, reduceIte, ↓JK, JE, cTw, sTh14, sCFuel, sWhole, prT, sr, evS, zw_, zy_, iOf, zb_, inR, inN, hR]; rfl)); (try kernel_rfl); (try (focus (first | exact True.intro | ((try simp only [JE, iOf, zb_]); (repeat' (first | exact True.intro | exact hok | exact hw | assumption | apply And.intro | rfl | omega | decide | intro _)); done) | ((try simp only [JS, implies_true, forall_const, z9_, z2_, kndOf, inR, inN]); (repeat' (first | assumption | exact True.intro | omega | apply And.intro)); done))))) | fail)
 apply At.endsPick [0, 1, 2, 3, 4, 8, 9, 10] za_ (fn := Tryz.f45) (rs := [.cell 2 112]) Anc.refl hro (lb_ rfl) rfl
 ·exact yi_
 ·exact xf_
 ·rfl
 ·rfl
 ·rfl
 ·exact k29_
 ·rfl
 ·exact xd_
 ·exact zs_
 ·exact fun β => rfl
 ·exact xd_
def sCWhole : yq_ := fun args h m => match args with
 | [.agg [v1, .agg [v2, v3, v4, v5, v6], .agg [.agg [v7, v8, v9], v10, v11], v12, v13, v14]] => match xa_ h 5 (.tup []) v1, xa_ h 1 (.tup []) v12 with
  | some (c1, n1, f1, r1), some (c12, n12, f12, r12) => bif isI .u64 v2 && isI .i64 v3 && isI .i64 v4 && isI .i64 v5 && isI .i64 v6 && isI .i64 v7 && isI .i64 v8 && isI .i64 v9 && isI .i64 v10 && isI .i64 v11 && isI .i64 v13 && isI .i64 v14 then some (c1 ∧ c12 ∧ (∀ q, q < n1 → isIns (f1 q) = true) ∧ (∀ q, q < n12 → isI .i64 (f12 q) = true) ∧ ((∀ x ∈ (ls zl_ n1 f1), x.ok)) ∧ (n1 ≤ 1000000) ∧ (n12 ≤ 1000000) ∧ ((∀ k, R64 ((ls iOf n12 f12).getD k 0))) ∧ (R64 (iOf v11)) ∧ (R64 (iOf v7)) ∧ (R64 (iOf v8)), .agg [.sl m m [] 1 0 (y9_ (ls zl_ n1 f1) ⟨(iOf v2), (iOf v3), (iOf v4), (iOf v5), (iOf v6)⟩ (ys_ (iOf v11) (iOf v7) (iOf v8) (ls iOf n12 f12) (iOf v13)) (fuelF (iOf v14))).tr.length none, .int .i64 (y9_ (ls zl_ n1 f1) ⟨(iOf v2), (iOf v3), (iOf v4), (iOf v5), (iOf v6)⟩ (ys_ (iOf v11) (iOf v7) (iOf v8) (ls iOf n12 f12) (iOf v13)) (fuelF (iOf v14))).at_, .int .i64 (y9_ (ls zl_ n1 f1) ⟨(iOf v2), (iOf v3), (iOf v4), (iOf v5), (iOf v6)⟩ (ys_ (iOf v11) (iOf v7) (iOf v8) (ls iOf n12 f12) (iOf v13)) (fuelF (iOf v14))).bad, sr (y9_ (ls zl_ n1 f1) ⟨(iOf v2), (iOf v3), (iOf v4), (iOf v5), (iOf v6)⟩ (ys_ (iOf v11) (iOf v7) (iOf v8) (ls iOf n12 f12) (iOf v13)) (fuelF (iOf v14))).s (.sl (m + 1) (m + 1) [] 1 0 (y9_ (ls zl_ n1 f1) ⟨(iOf v2), (iOf v3), (iOf v4), (iOf v5), (iOf v6)⟩ (ys_ (iOf v11) (iOf v7) (iOf v8) (ls iOf n12 f12) (iOf v13)) (fuelF (iOf v14))).s.cells.length none) (.sl (m + 2) (m + 2) [] 3 0 (y9_ (ls zl_ n1 f1) ⟨(iOf v2), (iOf v3), (iOf v4), (iOf v5), (iOf v6)⟩ (ys_ (iOf v11) (iOf v7) (iOf v8) (ls iOf n12 f12) (iOf v13)) (fuelF (iOf v14))).s.sends.length none)], r1 ++ r12, [(m, trO (y9_ (ls zl_ n1 f1) ⟨(iOf v2), (iOf v3), (iOf v4), (iOf v5), (iOf v6)⟩ (ys_ (iOf v11) (iOf v7) (iOf v8) (ls iOf n12 f12) (iOf v13)) (fuelF (iOf v14))).tr), (m + 1, cRf (y9_ (ls zl_ n1 f1) ⟨(iOf v2), (iOf v3), (iOf v4), (iOf v5), (iOf v6)⟩ (ys_ (iOf v11) (iOf v7) (iOf v8) (ls iOf n12 f12) (iOf v13)) (fuelF (iOf v14))).s.cells), (m + 2, sRf (y9_ (ls zl_ n1 f1) ⟨(iOf v2), (iOf v3), (iOf v4), (iOf v5), (iOf v6)⟩ (ys_ (iOf v11) (iOf v7) (iOf v8) (ls iOf n12 f12) (iOf v13)) (fuelF (iOf v14))).s.sends)]) else none
  | _, _ => none
 | _ => none
theorem sCWhole_ok : zj_ Tryz.prog 45 sCWhole := by
 refine ⟨zf_ (by kernel_rfl), fun args h m c v rd wr hs hm hc w0 M β h' w R hrd hwr hst => ?_⟩
 unfold sCWhole at hs
 split at hs
 ·rename_i v1 v2 v3 v4 v5 v6 v7 v8 v9 v10 v11 v12 v13 v14
  split at hs
  ·rename_i c1 n1 f1 r1 c12 n12 f12 r12 a1 a12
   obtain ⟨hb, hs⟩ := zk_ hs
   simp only [Option.some.injEq, Prod.mk.injEq] at hs
   obtain ⟨rfl, rfl, rfl, rfl⟩ := hs
   simp only [Bool.and_eq_true] at hb
   obtain ⟨⟨⟨⟨⟨⟨⟨⟨⟨⟨⟨b2, b3⟩, b4⟩, b5⟩, b6⟩, b7⟩, b8⟩, b9⟩, b10⟩, b11⟩, b13⟩, b14⟩ := hb
   obtain ⟨k1, k12, g1, g12, y1, y2, y3, y4, y5, y6, y7⟩ := hc
   obtain ⟨A1, p1, d1, e1, t1⟩ := zg_ R a1 k1 (fun i hi => hrd i (List.mem_append_left _ hi)) (by omega)
   obtain ⟨A12, p12, d12, e12, t12⟩ := zg_ R a12 k12 (fun i hi => hrd i (List.mem_append_right _ hi)) (by omega)
   refine yf_ (views := [⟨5, (ls zl_ n1 f1).length, prS (ls zl_ n1 f1), A1, p1⟩, ⟨1, (ls iOf n12 f12).length, i64S (ls iOf n12 f12), A12, p12⟩]) (cwhole_lit (ls zl_ n1 f1) ⟨(iOf v2), (iOf v3), (iOf v4), (iOf v5), (iOf v6)⟩ (iOf v7) (iOf v8) (iOf v9) (iOf v10) (iOf v11) (iOf v13) (iOf v14) (ls iOf n12 f12) p1 p12 y1 (by rw [zb_]; exact y2) (by rw [zb_]; exact y3) y4 y5 y6 y7 _ rfl) ?_ R hm hwr ?_ ?_ ?_
   ·intro x hx
    simp only [List.mem_cons, List.not_mem_nil, or_false] at hx
    rcases hx with rfl | rfl
    ·exact xn_ t1 e1 g1
    ·exact z0_ t12 e12 g12
   ·intro β1 hv
    simp only [Vd, zb_, and_true] at hv
    obtain ⟨z1, z12⟩ := hv
    simp only [denL, z7_, z6_, z5_, zr_, zb_, yo_, evS, sr, csl, ssl, z1, z12, d1, d12, zc_ b2, zc_ b3, zc_ b4, zc_ b5, zc_ b6, zc_ b7, zc_ b8, zc_ b9, zc_ b10, zc_ b11, zc_ b13, zc_ b14]
   ·exact xd_
   ·exact xd_
  ·cases hs
 ·cases hs
def resB (used at_ : Int) (cl : List Int) (dr : Int) (sl : List Snd) (tr : List Int) (wat wbad : Int) (w : Sta) : Bool :=
 if used ≠ tr.length ∨ at_ ≠ wat then false else if wbad ≠ 0 then decide ((cl.length : Int) + sl.length + dr = 0) else sameB ⟨w.at_, true, w.regs, cl, dr, sl⟩ w
def sTh18 : yq_ := fun args h m => match args with
 | [.agg [v1, .bool v2, .arr 8 1 v3, v4, v5, v6]] => match xa_ h 1 (.tup []) v4, xa_ h 3 (.tup []) v6 with
  | some (c4, n4, f4, r4), some (c6, n6, f6, r6) => bif isI .i64 v1 && isI .i64 v5 then some (c4 ∧ c6 ∧ (∀ q, q < n4 → isI .i64 (f4 q) = true) ∧ (∀ q, q < n6 → isSnd (f6 q) = true) ∧ (∀ q, q < 8 → isI .i64 (v3 q) = true) ∧ (n4 ≤ 1000000) ∧ (n6 ≤ 1000000), sr ⟨(iOf v1), v2, (fun q => iOf (v3 q)), (ls iOf n4 f4), (iOf v5), (ls zv_ n6 f6)⟩ (.sl m m [] 1 0 (ls iOf n4 f4).length none) (.sl (m + 1) (m + 1) [] 3 0 (ls zv_ n6 f6).length none), r4 ++ r6, [(m, cRf (ls iOf n4 f4)), (m + 1, sRf (ls zv_ n6 f6))]) else none
  | _, _ => none
 | _ => none
theorem sTh18_ok : zj_ Tryz.prog 42 sTh18 := by
 refine ⟨zf_ (by kernel_rfl), fun args h m c v rd wr hs hm hc w0 M β h' w R hrd hwr hst => ?_⟩
 unfold sTh18 at hs
 split at hs
 ·rename_i v1 v2 v3 v4 v5 v6
  split at hs
  ·rename_i c4 n4 f4 r4 c6 n6 f6 r6 a4 a6
   obtain ⟨hb, hs⟩ := zk_ hs
   simp only [Option.some.injEq, Prod.mk.injEq] at hs
   obtain ⟨rfl, rfl, rfl, rfl⟩ := hs
   simp only [Bool.and_eq_true] at hb
   obtain ⟨b1, b5⟩ := hb
   obtain ⟨k4, k6, g4, g6, g3, y1, y2⟩ := hc
   obtain ⟨A4, p4, d4, e4, t4⟩ := zg_ R a4 k4 (fun i hi => hrd i (List.mem_append_left _ hi)) (by omega)
   obtain ⟨A6, p6, d6, e6, t6⟩ := zg_ R a6 k6 (fun i hi => hrd i (List.mem_append_right _ hi)) (by omega)
   refine yf_ (views := [⟨1, (ls iOf n4 f4).length, i64S (ls iOf n4 f4), A4, p4⟩, ⟨3, (ls zv_ n6 f6).length, zn_ (ls zv_ n6 f6), A6, p6⟩]) (th18_lit ⟨(iOf v1), v2, (fun q => iOf (v3 q)), (ls iOf n4 f4), (iOf v5), (ls zv_ n6 f6)⟩ p4 p6 (by rw [zb_]; exact y1) (by rw [zb_]; exact y2)) ?_ R hm hwr ?_ ?_ ?_
   ·intro x hx
    simp only [List.mem_cons, List.not_mem_nil, or_false] at hx
    rcases hx with rfl | rfl
    ·exact z0_ t4 e4 g4
    ·exact viewSnd t6 e6 g6
   ·intro β1 hv
    simp only [Vd, zb_, and_true] at hv
    obtain ⟨z4, z6⟩ := hv
    simp only [denL, z7_, z6_, z5_, zr_, zb_, yo_, evS, sr, csl, ssl, z4, z6, d4, d6, zc_ b1, zc_ b5, ← r8Den (β := β) (β1 := β1) g3]
   ·exact xd_
   ·exact xd_
  ·cases hs
 ·cases hs
def cRs : FuncId → Option yq_ := y3_ [(42, sTh18), (41, sRSame)]
theorem cRs_ok : ∀ f S, cRs f = some S → zj_ Tryz.prog f S := zp_ ⟨sTh18_ok, sRSame_ok, trivial⟩
theorem result_lit (used at_ dr wat wbad : Int) (cl : List Int) (sl : List Snd) (tr : List Int) (w : Sta) (p1 p2 p3 p4 p5 : Nat) (h1 : cl.length ≤ 1000000) (h2 : sl.length ≤ 1000000) (h3 : 0 ≤ dr ∧ dr ≤ 1099511627776) (h4 : tr.length ≤ 1000000) (h5 : w.cells.length ≤ 1000000) (h6 : w.sends.length ≤ 1000000) :
  zo_ Tryz.prog 47 [.agg [.int .i64 used, .int .i64 at_, .sl 1 2 [] 1 0 cl.length (some p1), .int .i64 dr, .sl 3 4 [] 3 0 sl.length (some p2)], .agg [.sl 5 6 [] 1 0 tr.length (some p3), .int .i64 wat, .int .i64 wbad, sr w (.sl 7 8 [] 1 0 w.cells.length (some p4)) (.sl 9 10 [] 3 0 w.sends.length (some p5))]]
  [.gone, .gone, .ro (.arr cl.length 1 (i64S cl)), .gone, .ro (.arr sl.length 3 (zn_ sl)), .gone, .ro (.arr tr.length 1 (i64S tr)), .gone, .ro (.arr w.cells.length 1 (i64S w.cells)), .gone, .ro (.arr w.sends.length 3 (zn_ w.sends))] (.bool (resB used at_ cl dr sl tr wat wbad w)) [.gone] := by
 simp only [sr]
 by_cases a1 : used = tr.length
 case neg =>
  rw [show resB used at_ cl dr sl tr wat wbad w = false from if_pos (.inl a1)]
  refine ze_ (fn := Tryz.f47) 11 51 0 rfl rfl rfl rfl rfl u15_ rfl fun w0 M E hro => ?_
  repeat' (first | refine Ctl.h ?_ | ((with_reducible intro hif); first | (focus (cases hif; done)) | ((try simp only [JH] at hif); try (exfalso; omega))) | ((with_reducible first | apply J22 cRs_ok za_ | apply J23 fol cRs_ok za_ | apply J24); (·rfl); (· (simp only [push_cast, ↓JP, Nat.reduceAdd, Nat.reduceEqDiff, Nat.reduceLT, Nat.reduceMul, Nat.reduceLeDiff, reduceCtorEq, reduceIte, ↓JK, a1]; rfl)); (try kernel_rfl); try exact yk_) | fail)
  apply At.endsRet za_ (fn := Tryz.f47) (rs := [.tmp 4]) Anc.refl hro (lb_ rfl) rfl
  ·exact yi_
  ·exact yl_
  ·exact k6_
  ·rfl
  ·exact xd_
  ·exact zs_
  ·exact fun β => rfl
  ·exact xd_
 by_cases a2 : at_ = wat
 case neg =>
  rw [show resB used at_ cl dr sl tr wat wbad w = false from if_pos (.inr a2)]
  refine ze_ (fn := Tryz.f47) 11 51 0 rfl rfl rfl rfl rfl u15_ rfl fun w0 M E hro => ?_
  repeat' (first | refine Ctl.h ?_ | ((with_reducible intro hif); first | (focus (cases hif; done)) | ((try simp only [JH] at hif); try (exfalso; omega))) | ((with_reducible first | apply J22 cRs_ok za_ | apply J23 fol cRs_ok za_ | apply J24); (·rfl); (· (simp only [push_cast, ↓JP, Nat.reduceAdd, Nat.reduceEqDiff, Nat.reduceLT, Nat.reduceMul, Nat.reduceLeDiff, reduceCtorEq, reduceIte, ↓JK, (eq_true a1), a2]; rfl)); (try kernel_rfl); try exact yk_) | fail)
  apply At.endsRet za_ (fn := Tryz.f47) (rs := [.tmp 4]) Anc.refl hro (lb_ rfl) rfl
  ·exact yi_
  ·exact yl_
  ·exact k6_
  ·rfl
  ·exact xd_
  ·exact zs_
  ·exact fun β => rfl
  ·exact xd_
 have a3 : ¬ (used ≠ tr.length ∨ at_ ≠ wat) := by omega
 by_cases a4 : wbad = 0
 ·rw [show resB used at_ cl dr sl tr wat wbad w = sameB ⟨w.at_, true, w.regs, cl, dr, sl⟩ w by unfold resB; rw [if_neg a3, if_neg (fun h => h a4)]]
  refine ze_ (fn := Tryz.f47) 11 51 0 rfl rfl rfl rfl rfl u15_ rfl fun w0 M E hro => ?_
  repeat' (first | refine Ctl.h ?_ | ((with_reducible intro hif); first | (focus (cases hif; done)) | ((try simp only [JH] at hif); try (exfalso; omega))) | ((with_reducible first | apply J22 cRs_ok za_ | apply J23 fol cRs_ok za_ | apply J24); (·rfl); (· (simp only [push_cast, ↓JP, Nat.reduceAdd, Nat.reduceEqDiff, Nat.reduceLT, Nat.reduceMul, Nat.reduceLeDiff, reduceCtorEq, reduceIte, ↓JK, JE, cRs, sTh18, sRSame, sr, cRf, sRf, zw_, zy_, iOf, zb_, inR, inN, (eq_true a1), (eq_true a2), (eq_true a4)]; rfl)); (try kernel_rfl); (try (focus (first | exact True.intro | ((try simp only [JE, iOf, zb_]); (repeat' (first | exact True.intro | assumption | apply And.intro | rfl | omega | decide | intro _)); done) | ((try simp only [JS, implies_true, forall_const, z9_, z2_, kndOf, inR, inN]); (repeat' (first | assumption | exact True.intro | omega | apply And.intro)); done))))) | fail)
  apply At.endsRet za_ (fn := Tryz.f47) (rs := [.tmp 4]) Anc.refl hro (lb_ rfl) rfl
  ·exact yi_
  ·exact yl_
  ·exact k6_
  ·rfl
  ·exact xd_
  ·exact zs_
  ·exact fun β => rfl
  ·exact xd_
 ·rw [show resB used at_ cl dr sl tr wat wbad w = decide ((cl.length : Int) + sl.length + dr = 0) by unfold resB; rw [if_neg a3, if_pos a4]]
  refine ze_ (fn := Tryz.f47) 11 51 0 rfl rfl rfl rfl rfl u15_ rfl fun w0 M E hro => ?_
  repeat' (first | refine Ctl.h ?_ | ((with_reducible intro hif); first | (focus (cases hif; done)) | ((try simp only [JH] at hif); try (exfalso; omega))) | ((with_reducible first | apply J22 cRs_ok za_ | apply J23 fol cRs_ok za_ | apply J24); (·rfl); (· (simp only [push_cast, ↓JP, Nat.reduceAdd, Nat.reduceEqDiff, Nat.reduceLT, Nat.reduceMul, Nat.reduceLeDiff, reduceCtorEq, reduceIte, ↓JK, (eq_true a1), (eq_true a2), a4, inR, inN]; rfl)); (try kernel_rfl); try exact k25_) | fail)
  apply At.endsRet za_ (fn := Tryz.f47) (rs := [.tmp 4]) Anc.refl hro (lb_ rfl) rfl
  ·exact yi_
  ·exact yl_
  ·exact k6_
  ·rfl
  ·exact xd_
  ·exact zs_
  ·exact fun β => rfl
  ·exact xd_
def sRes : yq_ := fun args h m => match args with
 | [.agg [v1, v2, v3, v4, v5], .agg [v6, v7, v8, .agg [v9, .bool v10, .arr 8 1 v11, v12, v13, v14]]] => match xa_ h 1 (.tup []) v3, xa_ h 3 (.tup []) v5, xa_ h 1 (.tup []) v6, xa_ h 1 (.tup []) v12, xa_ h 3 (.tup []) v14 with
  | some (c3, n3, f3, r3), some (c5, n5, f5, r5), some (c6, n6, f6, r6), some (c12, n12, f12, r12), some (c14, n14, f14, r14) => bif isI .i64 v1 && isI .i64 v2 && isI .i64 v4 && isI .i64 v7 && isI .i64 v8 && isI .i64 v9 && isI .i64 v13 then some (c3 ∧ c5 ∧ c6 ∧ c12 ∧ c14 ∧ (∀ q, q < n3 → isI .i64 (f3 q) = true) ∧ (∀ q, q < n5 → isSnd (f5 q) = true) ∧ (∀ q, q < n6 → isI .i64 (f6 q) = true) ∧ (∀ q, q < n12 → isI .i64 (f12 q) = true) ∧ (∀ q, q < n14 → isSnd (f14 q) = true) ∧ (∀ q, q < 8 → isI .i64 (v11 q) = true) ∧ (n3 ≤ 1000000) ∧ (n5 ≤ 1000000) ∧ (0 ≤ (iOf v4) ∧ (iOf v4) ≤ 1099511627776) ∧ (n6 ≤ 1000000) ∧ (n12 ≤ 1000000) ∧ (n14 ≤ 1000000), .bool (resB (iOf v1) (iOf v2) (ls iOf n3 f3) (iOf v4) (ls zv_ n5 f5) (ls iOf n6 f6) (iOf v7) (iOf v8) ⟨(iOf v9), v10, (fun q => iOf (v11 q)), (ls iOf n12 f12), (iOf v13), (ls zv_ n14 f14)⟩), r3 ++ r5 ++ r6 ++ r12 ++ r14, []) else none
  | _, _, _, _, _ => none
 | _ => none
theorem sRes_ok : zj_ Tryz.prog 47 sRes := by
 refine ⟨zf_ (by kernel_rfl), fun args h m c v rd wr hs hm hc w0 M β h' w R hrd hwr hst => ?_⟩
 unfold sRes at hs
 split at hs
 ·rename_i v1 v2 v3 v4 v5 v6 v7 v8 v9 v10 v11 v12 v13 v14
  split at hs
  ·rename_i c3 n3 f3 r3 c5 n5 f5 r5 c6 n6 f6 r6 c12 n12 f12 r12 c14 n14 f14 r14 a3 a5 a6 a12 a14
   obtain ⟨hb, hs⟩ := zk_ hs
   simp only [Option.some.injEq, Prod.mk.injEq] at hs
   obtain ⟨rfl, rfl, rfl, rfl⟩ := hs
   simp only [Bool.and_eq_true] at hb
   obtain ⟨⟨⟨⟨⟨⟨b1, b2⟩, b4⟩, b7⟩, b8⟩, b9⟩, b13⟩ := hb
   obtain ⟨k3, k5, k6, k12, k14, g3, g5, g6, g12, g14, g11, y1, y2, y3, y4, y5, y6⟩ := hc
   obtain ⟨A3, p3, d3, e3, t3⟩ := zg_ R a3 k3 (fun i hi => hrd i (List.mem_append_left _ (List.mem_append_left _ (List.mem_append_left _ (List.mem_append_left _ hi))))) (by omega)
   obtain ⟨A5, p5, d5, e5, t5⟩ := zg_ R a5 k5 (fun i hi => hrd i (List.mem_append_left _ (List.mem_append_left _ (List.mem_append_left _ (List.mem_append_right _ hi))))) (by omega)
   obtain ⟨A6, p6, d6, e6, t6⟩ := zg_ R a6 k6 (fun i hi => hrd i (List.mem_append_left _ (List.mem_append_left _ (List.mem_append_right _ hi)))) (by omega)
   obtain ⟨A12, p12, d12, e12, t12⟩ := zg_ R a12 k12 (fun i hi => hrd i (List.mem_append_left _ (List.mem_append_right _ hi))) (by omega)
   obtain ⟨A14, p14, d14, e14, t14⟩ := zg_ R a14 k14 (fun i hi => hrd i (List.mem_append_right _ hi)) (by omega)
   refine yf_ (views := [⟨1, (ls iOf n3 f3).length, i64S (ls iOf n3 f3), A3, p3⟩, ⟨3, (ls zv_ n5 f5).length, zn_ (ls zv_ n5 f5), A5, p5⟩, ⟨1, (ls iOf n6 f6).length, i64S (ls iOf n6 f6), A6, p6⟩, ⟨1, (ls iOf n12 f12).length, i64S (ls iOf n12 f12), A12, p12⟩, ⟨3, (ls zv_ n14 f14).length, zn_ (ls zv_ n14 f14), A14, p14⟩]) (result_lit (iOf v1) (iOf v2) (iOf v4) (iOf v7) (iOf v8) (ls iOf n3 f3) (ls zv_ n5 f5) (ls iOf n6 f6) ⟨(iOf v9), v10, (fun q => iOf (v11 q)), (ls iOf n12 f12), (iOf v13), (ls zv_ n14 f14)⟩ p3 p5 p6 p12 p14 (by rw [zb_]; exact y1) (by rw [zb_]; exact y2) y3 (by rw [zb_]; exact y4) (by show List.length (ls _ _ _) ≤ _; rw [zb_]; exact y5) (by show List.length (ls _ _ _) ≤ _; rw [zb_]; exact y6)) ?_ R hm hwr ?_ ?_ ?_
   ·intro x hx
    simp only [List.mem_cons, List.not_mem_nil, or_false] at hx
    rcases hx with rfl | rfl | rfl | rfl | rfl
    ·exact z0_ t3 e3 g3
    ·exact viewSnd t5 e5 g5
    ·exact z0_ t6 e6 g6
    ·exact z0_ t12 e12 g12
    ·exact viewSnd t14 e14 g14
   ·intro β1 hv
    simp only [Vd, zb_, and_true] at hv
    obtain ⟨z3, z5, z6, z12, z14⟩ := hv
    simp only [denL, z7_, z6_, z5_, zr_, zb_, yo_, evS, sr, csl, ssl, z3, z5, z6, z12, z14, d3, d5, d6, d12, d14, zc_ b1, zc_ b2, zc_ b4, zc_ b7, zc_ b8, zc_ b9, zc_ b13, ← r8Den (β := β) (β1 := β1) g11]
   ·exact xd_
   ·exact xd_
  ·cases hs
 ·cases hs
structure ZC where
 j : Nat
 l : List Int
structure ZX where
 j : Nat
 l : List Snd
theorem less_iset {t n : Nat} {b : Bool} {σ : Nat → Nat} {l : List Int} {k : Nat} {y : Int} {g : Nat → SV} (hl : l.length = n) (hk : k < n) (hg : ∀ β q, (g q).cl β = [.int .i64 (bif decide (q = k) then y else l.getD q 0)]) : Less (.own t (.arr n 1 g) b) ((HB.own t (.arr n 1 (i64S (l.set k y))) b).ren σ) :=
 less_arL _ fun β q hq => by rw [hg, getD_setL (by omega)]
theorem getD_setS {l : List Snd} {k q : Nat} {y : Snd} (hk : k < l.length) : (l.set k y).getD q ⟨0, 0, 0⟩ = bif decide (q = k) then y else l.getD q ⟨0, 0, 0⟩ := by
 rw [List.getD_eq_getElem?_getD, List.getElem?_set, List.getD_eq_getElem?_getD]
 by_cases h : q = k
 ·subst h; simp [hk]
 ·have h' : ¬ k = q := fun e => h e.symm
  simp [h, h']
theorem less_sset {t n : Nat} {b : Bool} {σ : Nat → Nat} {l : List Snd} {k : Nat} {y : Snd} {g : Nat → SV} (hl : l.length = n) (hk : k < n) (hg : ∀ β q, (g q).cl β = (sndS (bif decide (q = k) then y else l.getD q ⟨0, 0, 0⟩)).cl β) : Less (.own t (.arr n 3 g) b) ((HB.own t (.arr n 3 (zn_ (l.set k y))) b).ren σ) := by
 have e : (HB.own t (.arr n 3 (zn_ (l.set k y))) b).ren σ = .own t (.arr n 3 (zn_ (l.set k y))) b := by
  simp only [HB.ren, SV.ren]; rw [sndsS_ren]
 rw [e]
 refine .val (fun β => arrCl fun q hq => ?_) (fun n1 k1 f1 e => by injection e with e1 e2 e3; subst e1 e2; exact ⟨_, rfl⟩) (fun n1 k1 f1 e => by injection e with e1 e2 e3; subst e1 e2; exact ⟨_, rfl⟩)
 rw [hg]
 unfold zn_
 rw [getD_setS (by omega)]
theorem spoil_nil : zo_ Tryz.prog 40 [.sl 0 0 [] 0 0 0 (some 0), .sl 0 0 [] 0 0 0 (some 0)] [.gone] (.tup []) [.gone] := by
 refine ze_ (fn := Tryz.f40) 1 25 0 rfl rfl rfl rfl rfl u15_ rfl fun w0 M E hro => ?_
 repeat' (first | refine Ctl.h ?_ | ((with_reducible intro hif); first | (focus (cases hif; done)) | ((try simp only [JH] at hif); try (exfalso; omega))) | ((with_reducible first | apply J22 cRs_ok za_ | apply J23 fol cRs_ok za_ | apply J24); (·rfl); (· exact k71_); (try kernel_rfl); try exact yk_) | fail)
 refine WF.loopAt (fun (j : Nat) => j = 0) (fun (j : Nat) => [(1, .sl 0 0 [] 0 0 0 (some 0)), (7, .nat .i64 0), (8, .nat .i64 j)]) (fun (j : Nat) => [.gone]) (fun (j : Nat) => j) 0 rfl ?_ ?_ rfl ?_ ?_ rfl ?_
 ·exact k5_
 ·exact k6_
 ·exact xd_
 ·exact xd_
 rintro j rfl
 repeat' (first | refine Ctl.h ?_ | ((with_reducible intro hif); first | (focus (cases hif; done)) | ((try simp only [JH] at hif); try (exfalso; omega))) | ((with_reducible first | apply J22 cRs_ok za_ | apply J23 fol cRs_ok za_ | apply J24); (·rfl); (· exact k71_); (try kernel_rfl); try exact yk_) | fail)
 refine WF.loopAt (fun (j : Nat) => j = 0) (fun (j : Nat) => [(16, .nat .i64 0), (17, .nat .i64 j)]) (fun (j : Nat) => [.gone]) (fun (j : Nat) => j) 0 rfl ?_ ?_ rfl ?_ ?_ rfl ?_
 ·exact k5_
 ·exact k6_
 ·exact xd_
 ·exact xd_
 rintro j rfl
 repeat' (first | refine Ctl.h ?_ | ((with_reducible intro hif); first | (focus (cases hif; done)) | ((try simp only [JH] at hif); try (exfalso; omega))) | ((with_reducible first | apply J22 cRs_ok za_ | apply J23 fol cRs_ok za_ | apply J24); (·rfl); (· exact k71_); (try kernel_rfl); try exact yk_) | fail)
 apply At.endsNormal za_ (fn := Tryz.f40) (rs := []) Anc.refl hro (lb_ rfl) rfl
 ·exact yi_
 ·exact yl_
 ·exact k6_
 ·rfl
 ·exact xd_
 ·exact zs_
 ·exact fun β => rfl
 ·exact xd_
theorem spoil_lit (c : List Int) (x : List Snd) (hc : c.length ≤ 1000000) (hx : x.length ≤ 1000000) : zo_ Tryz.prog 40 [.sl 1 1 [] 1 0 c.length none, .sl 2 2 [] 3 0 x.length none] [.gone, .own 2 (.arr c.length 1 (i64S c)) false, .own 125 (.arr x.length 3 (zn_ x)) false] (.tup []) [.gone, .gone, .gone] := by
 refine ze_ (fn := Tryz.f40) 3 25 0 rfl rfl rfl rfl rfl u15_ rfl fun w0 M E hro => ?_
 repeat' (first | refine Ctl.h ?_ | ((with_reducible intro hif); first | (focus (cases hif; done)) | ((try simp only [JH] at hif); try (exfalso; omega))) | ((with_reducible first | apply J22 cRs_ok za_ | apply J23 fol cRs_ok za_ | apply J24); (·rfl); (· exact k71_); (try kernel_rfl); try exact yk_) | fail)
 refine WF.loopAt (fun (z : ZC) => z.j ≤ c.length ∧ z.l.length = c.length) (fun (z : ZC) => [(0, .sl 1 1 [] 1 0 c.length none), (1, .sl 2 2 [] 3 0 x.length none), (7, .nat .i64 c.length), (8, .nat .i64 z.j)]) (fun (z : ZC) => [.gone, .own 2 (.arr c.length 1 (i64S z.l)) false, .own 125 (.arr x.length 3 (zn_ x)) false]) (fun (z : ZC) => c.length - z.j) ⟨0, c⟩ ⟨Nat.zero_le _, rfl⟩ ?_ ?_ rfl ?_ ?_ rfl ?_
 ·exact k5_
 ·exact k6_
 ·exact xd_
 ·exact xd_
 rintro ⟨j, l⟩ ⟨hj, hl⟩
 dsimp only at hj hl ⊢
 by_cases hjl : j < c.length
 ·repeat' (first | refine Ctl.h ?_ | ((with_reducible intro hif); first | (focus (cases hif; done)) | ((try simp only [JH] at hif); try (exfalso; omega))) | ((with_reducible first | apply J22 cRs_ok za_ | apply J23 fol cRs_ok za_ | apply J24); (·rfl); (· (simp only [push_cast, ↓JP, Nat.reduceAdd, Nat.reduceEqDiff, Nat.reduceLT, Nat.reduceMul, Nat.reduceLeDiff, reduceCtorEq, reduceIte, ↓JK, hjl, i64S, inR, inN]; rfl)); (try kernel_rfl); try exact k25_) | fail)
  refine At.nextPick [0, 1, 2] ⟨j + 1, l.set j (-99)⟩ ?_ rfl rfl rfl ?_ rfl ?_ ?_ ?_ rfl
  ·exact ⟨⟨hjl, by rw [List.length_set]; exact hl⟩, by show c.length - (j + 1) < c.length - j; omega⟩
  ·(repeat' (first | exact trivial | exact .inl rfl | exact .inr (.same _) | exact .inr .loose | exact .inr (.arr (by assumption)) | apply And.intro | (exact .inr (less_iset hl hjl (fun β q => rfl)))))
  ·exact xd_
  ·exact k16_
  ·exact xd_
 ·obtain rfl : j = c.length := by omega
  repeat' (first | refine Ctl.h ?_ | ((with_reducible intro hif); first | (focus (cases hif; done)) | ((try simp only [JH] at hif); try (exfalso; omega))) | ((with_reducible first | apply J22 cRs_ok za_ | apply J23 fol cRs_ok za_ | apply J24); (·rfl); (· (simp only [push_cast, ↓JP, Nat.reduceAdd, Nat.reduceEqDiff, Nat.reduceLT, Nat.reduceMul, Nat.reduceLeDiff, reduceCtorEq, reduceIte, ↓JK, hjl]; rfl)); (try kernel_rfl); try exact yk_) | fail)
  refine WF.loopAt (fun (z : ZX) => z.j ≤ x.length ∧ z.l.length = x.length) (fun (z : ZX) => [(1, .sl 2 2 [] 3 0 x.length none), (16, .nat .i64 x.length), (17, .nat .i64 z.j)]) (fun (z : ZX) => [.gone, .gone, .own 125 (.arr x.length 3 (zn_ z.l)) false]) (fun (z : ZX) => x.length - z.j) ⟨0, x⟩ ⟨Nat.zero_le _, rfl⟩ ?_ ?_ rfl ?_ ?_ rfl ?_
  ·exact k5_
  ·exact k6_
  ·exact xd_
  ·exact xd_
  rintro ⟨j, y⟩ ⟨hj2, hl2⟩
  dsimp only at hj2 hl2 ⊢
  by_cases hjl2 : j < x.length
  ·repeat' (first | refine Ctl.h ?_ | ((with_reducible intro hif); first | (focus (cases hif; done)) | ((try simp only [JH] at hif); try (exfalso; omega))) | ((with_reducible first | apply J22 cRs_ok za_ | apply J23 fol cRs_ok za_ | apply J24); (·rfl); (· (simp only [push_cast, ↓JP, Nat.reduceAdd, Nat.reduceEqDiff, Nat.reduceLT, Nat.reduceMul, Nat.reduceLeDiff, reduceCtorEq, reduceIte, ↓JK, hjl2, zn_, sndS, inR, inN]; rfl)); (try kernel_rfl); try exact k25_) | fail)
   refine At.nextPick [0, 1, 2] ⟨j + 1, y.set j ⟨-99, (y.getD j ⟨0, 0, 0⟩).delay, (y.getD j ⟨0, 0, 0⟩).value⟩⟩ ?_ rfl rfl rfl ?_ rfl ?_ ?_ ?_ rfl
   ·exact ⟨⟨hjl2, by rw [List.length_set]; exact hl2⟩, by show x.length - (j + 1) < x.length - j; omega⟩
   ·(repeat' (first | exact trivial | exact .inl rfl | exact .inr (.same _) | exact .inr .loose | exact .inr (.arr (by assumption)) | apply And.intro | (refine .inr (less_sset hl2 hjl2 (fun β q => ?_)); rw [y7_]; cases decide (q = j) <;> rfl)))
   ·exact xd_
   ·exact k16_
   ·exact xd_
  ·obtain rfl : j = x.length := by omega
   repeat' (first | refine Ctl.h ?_ | ((with_reducible intro hif); first | (focus (cases hif; done)) | ((try simp only [JH] at hif); try (exfalso; omega))) | ((with_reducible first | apply J22 cRs_ok za_ | apply J23 fol cRs_ok za_ | apply J24); (·rfl); (· (simp only [push_cast, ↓JP, Nat.reduceAdd, Nat.reduceEqDiff, Nat.reduceLT, Nat.reduceMul, Nat.reduceLeDiff, reduceCtorEq, reduceIte, ↓JK, hjl2]; rfl)); (try kernel_rfl); try exact yk_) | fail)
   apply At.endsNormal za_ (fn := Tryz.f40) (rs := []) Anc.refl hro (lb_ rfl) rfl
   ·exact yi_
   ·exact yl_
   ·exact k6_
   ·rfl
   ·exact xd_
   ·exact zs_
   ·exact fun β => rfl
   ·exact xd_
theorem prR_st {h : HM} {P : List Ins} : (prR P).stable h := fun q => prS_stable q
theorem pS_ok : zj_ Tryz.prog 122 pS := by
 refine ⟨zf_ (by kernel_rfl), fun args h m c v rd wr hs hm hc w0 M β h' w R hrd hwr hst => ?_⟩
 unfold pS at hs
 split at hs
 ·rename_i g z i n
  split at hs
  ·rename_i s v x c k ok n' P ok2 hmp hpp
   obtain ⟨hb, hs⟩ := zk_ hs
   simp only [Option.some.injEq, Prod.mk.injEq] at hs
   obtain ⟨rfl, rfl, rfl, rfl⟩ := hs
   simp only [Bool.and_eq_true] at hb
   obtain ⟨⟨hzi, hnn⟩, hnd⟩ := hb
   have hzi := Nat.eq_of_beq_eq_true hzi
   have hnn := Nat.eq_of_beq_eq_true hnn
   subst hzi hnn
   have hnl := prP_len hpp
   obtain ⟨⟨hok, hok2⟩, hP, hV, hS⟩ := hc
   have eg := hrd g (by simp)
   have ec := hrd c (by simp)
   have ek := hrd k (by simp)
   have ei := hrd z (by simp)
   exact bun_ok (h := h) (m := m) [0, g, c, k, z] (step_lit P s v x hP hV hS) R rfl (by simp) rfl rfl hnd
    ⟨Fit.gone (by rw [R.nil0]; rfl), bun_mac hmp hok eg rfl rfl, bun_cel hmp hok ec, bun_snd hmp hok ek, bun_pr hpp hok2 ei, trivial⟩ hm
    (fun p hp => by
     simp only [newB, List.drop, List.length_cons, List.length_nil, List.mem_cons, List.not_mem_nil, or_false] at hp
     subst hp
     exact hwr (m, sB (xp_ P v s)) (by simp)) (by simp) rfl
    ⟨trivial, mB_st rfl rfl, cB_st, sB_st, prR_st, trivial⟩ ⟨rfl, ⟨rfl, rfl⟩, trivial⟩
    ⟨trivial, mB_st rfl rfl, cB_st, trivial, prR_st, sB_st, trivial⟩ trivial (by rw [hnl]; rfl) rfl (by
     have e : xo_ [0, g, c, k, z] m 5 = m := by simp [xo_]
     show [(g, (mB _ v _ 2 5).ren _), (c, (cB _).ren _), (k, HB.gone.ren _), (m, (sB _).ren _)] = _
     rw [mB_ren, cB_ren, sB_ren, e]; rfl)
  ·cases hs
 ·cases hs
def sCheck : yq_ := fun args h m => match args with
 | [v1] => match xa_ h 5 (.tup []) v1 with
  | some (c1, n1, f1, r1) => some (c1 ∧ (∀ q, q < n1 → isIns (f1 q) = true) ∧ ((∀ x ∈ (ls zl_ n1 f1), x.ok)) ∧ (n1 ≤ 281474976710656), .tup [.int .i64 (checkI (ls zl_ n1 f1)).1, .int .i64 (checkI (ls zl_ n1 f1)).2], r1, [])
  | _ => none
 | _ => none
theorem sCheck_ok : zj_ Tryz.prog 109 sCheck := by
 refine ⟨zf_ (by kernel_rfl), fun args h m c v rd wr hs hm hc w0 M β h' w R hrd hwr hst => ?_⟩
 unfold sCheck at hs
 split at hs
 ·rename_i v1
  split at hs
  ·rename_i c1 n1 f1 r1 a1
   simp only [Option.some.injEq, Prod.mk.injEq] at hs
   obtain ⟨rfl, rfl, rfl, rfl⟩ := hs
   obtain ⟨k1, g1, y1, y2⟩ := hc
   obtain ⟨A1, p1, d1, e1, t1⟩ := zg_ R a1 k1 (fun i hi => hrd i hi) (by omega)
   rw [elems_ins g1] at t1
   simp only [denL, z7_, z6_, z5_, zr_, d1]
   exact (check_c A1 n1 p1 (by omega) (ls zl_ n1 f1) y1 w t1).mono fun e w' he => post_read R (by (repeat' (first | exact trivial | exact rfl | assumption | apply Stable.ite | apply And.intro | intro _ | (simp only [Stable, zd_, i64S, prS, yo_, zn_, sndS]; done)))) rfl he.1 he.2
  ·cases hs
 ·cases hs
def cOp : FuncId → Option yq_ := y3_ [(109, sCheck), (138, sVRight), (139, sSRight), (93, sCopied)]
theorem cOp_ok : ∀ f S, cOp f = some S → zj_ Tryz.prog f S := zp_ ⟨sCheck_ok, sVRight_ok, sSRight_ok, sCopied_ok, trivial⟩
theorem less_mac0 {σ : Nat → Nat} {c k c' k' : Nat} (s : Sta) (v : Evi) (hc : σ c = c') (hk : σ k = k') :
  Less (.own 186 (.agg [.agg [.int .i64 s.at_, .bool s.ended, .arr 8 1 (fun q => .int .i64 (s.regs q)), .sl c' c' [] 1 0 s.cells.length none, .int .i64 s.draws, .sl k' k' [] 3 0 s.sends.length none], .agg [.int .u64 v.seed, .int .i64 v.process, .int .i64 v.ports, .int .i64 v.look, .int .i64 v.now], .agg [.nat .u8 0, .nat .u8 0, .nat .u8 0, .nat .u8 0, .nat .i64 0]]) true) ((mB s v Ins0 c k).ren σ) := by
 subst hc hk
 rw [mB_ren]
 exact .val (fun β => rfl) (fun n k f e => by cases e) (fun n k f e => by cases e)
theorem open_good (P : List Ins) (v : Evi) (s : Sta) (p1 p2 p3 : Nat) (hP : ∀ x ∈ P, x.ok) (hn : P.length ≤ 281474976710656) (hc : s.cells.length ≤ 1000000) (hs : s.sends.length ≤ 1000000) (hE : yt_ P v s = 0) : zo_ Tryz.prog 115 [.sl 1 2 [] 5 0 P.length (some p1), .agg [.int .u64 v.seed, .int .i64 v.process, .int .i64 v.ports, .int .i64 v.look, .int .i64 v.now], .agg [.int .i64 s.at_, .bool s.ended, .arr 8 1 (fun q => .int .i64 (s.regs q)), .sl 3 4 [] 1 0 s.cells.length (some p2), .int .i64 s.draws, .sl 5 6 [] 3 0 s.sends.length (some p3)]]
  [.gone, .gone, .ro (.arr P.length 5 (prS P)), .gone, .ro (.arr s.cells.length 1 (i64S s.cells)), .gone, .ro (.arr s.sends.length 3 (zn_ s.sends))]
  (.tup [.ptr 7 [], .int .i64 0]) [.gone, .gone, .gone, .gone, .gone, .gone, .gone, mB s v Ins0 8 9, cB s, sB s] := by
 unfold yt_ at hE
 have q1 : (checkI P).2 = 0 := by
  by_cases q : (checkI P).2 = 0
  ·exact q
  ·rw [if_pos q] at hE; cases hE
 rw [if_neg (fun h => h q1)] at hE
 have q2 : v.rightB = true := by
  cases q : v.rightB
  ·rw [if_pos q] at hE; cases hE
  ·rfl
 rw [if_neg (by rw [q2]; exact Bool.noConfusion)] at hE
 have q3 : s.rightB P.length = true := by
  cases q : s.rightB P.length
  ·rw [if_pos q] at hE; cases hE
  ·rfl
 refine ze_ (fn := Tryz.f115) 7 32 0 rfl rfl rfl rfl rfl u16_ rfl fun w0 M E hro => ?_
 repeat' (first | refine Ctl.h ?_ | ((with_reducible intro hif); first | (focus (cases hif; done)) | ((try simp only [JH] at hif); try (exfalso; omega))) | ((with_reducible first | apply J22 cOp_ok za_ | apply J23 fol cOp_ok za_ | apply J24); (·rfl); (· exact k120_); (try kernel_rfl); try exact k119_) | fail)
 apply At.endsPick [0, 1, 2, 3, 4, 5, 6, 11, 9, 10] za_ (fn := Tryz.f115) (rs := [.tmp 6, .tmp 7]) Anc.refl hro (lb_ rfl) rfl
 ·exact yi_
 ·exact xf_
 ·rfl
 ·rfl
 ·rfl
 ·(repeat' (first | exact trivial | exact .inl rfl | exact .inr (.same _) | exact .inr .loose | exact .inr (.arr (by assumption)) | apply And.intro | (refine .inr (less_mac0 _ _ ?_ ?_) <;> rfl)))
 ·rfl
 ·exact k113_
 ·exact zs_
 ·exact fun β => rfl
 ·exact k113_
theorem open_bad (P : List Ins) (v : Evi) (s : Sta) (p1 p2 p3 : Nat) (hP : ∀ x ∈ P, x.ok) (hn : P.length ≤ 281474976710656) (hc : s.cells.length ≤ 1000000) (hs : s.sends.length ≤ 1000000) (hE : yt_ P v s ≠ 0) : zo_ Tryz.prog 115 [.sl 1 2 [] 5 0 P.length (some p1), .agg [.int .u64 v.seed, .int .i64 v.process, .int .i64 v.ports, .int .i64 v.look, .int .i64 v.now], .agg [.int .i64 s.at_, .bool s.ended, .arr 8 1 (fun q => .int .i64 (s.regs q)), .sl 3 4 [] 1 0 s.cells.length (some p2), .int .i64 s.draws, .sl 5 6 [] 3 0 s.sends.length (some p3)]]
  [.gone, .gone, .ro (.arr P.length 5 (prS P)), .gone, .ro (.arr s.cells.length 1 (i64S s.cells)), .gone, .ro (.arr s.sends.length 3 (zn_ s.sends))]
  (.tup [.nilp, .int .i64 (yt_ P v s)]) [.gone] := by
 by_cases q1 : (checkI P).2 = 0
 ·cases q2 : v.rightB
  ·have e : yt_ P v s = 181 := by unfold yt_; rw [if_neg (fun h => h q1), if_pos q2]
   rw [e]
   refine ze_ (fn := Tryz.f115) 7 32 0 rfl rfl rfl rfl rfl u16_ rfl fun w0 M E hro => ?_
   repeat' (first | refine Ctl.h ?_ | ((with_reducible intro hif); first | (focus (cases hif; done)) | ((try simp only [JH] at hif); try (exfalso; omega))) | ((with_reducible first | apply J22 cOp_ok za_ | apply J23 fol cOp_ok za_ | apply J24); (·rfl); (· (simp only [push_cast, ↓JP, Nat.reduceAdd, Nat.reduceEqDiff, Nat.reduceLT, Nat.reduceMul, Nat.reduceLeDiff, reduceCtorEq, reduceIte, ↓JK, JM, cOp, sCheck, sVRight, sSRight, sCopied, JE, inR, inN, q1, q2]; rfl)); (try kernel_rfl); try exact k119_) | fail)
   apply At.endsRet za_ (fn := Tryz.f115) (rs := [.tmp 6, .tmp 7]) Anc.refl hro (lb_ rfl) rfl
   ·exact yi_
   ·exact yl_
   ·exact k6_
   ·rfl
   ·exact k113_
   ·exact zs_
   ·exact fun β => rfl
   ·exact k113_
  ·cases q3 : s.rightB P.length
   ·have e : yt_ P v s = 182 := by unfold yt_; rw [if_neg (fun h => h q1), if_neg (by rw [q2]; exact Bool.noConfusion), if_pos q3]
    rw [e]
    refine ze_ (fn := Tryz.f115) 7 32 0 rfl rfl rfl rfl rfl u16_ rfl fun w0 M E hro => ?_
    repeat' (first | refine Ctl.h ?_ | ((with_reducible intro hif); first | (focus (cases hif; done)) | ((try simp only [JH] at hif); try (exfalso; omega))) | ((with_reducible first | apply J22 cOp_ok za_ | apply J23 fol cOp_ok za_ | apply J24); (·rfl); (· exact k120_); (try kernel_rfl); try exact k119_) | fail)
    apply At.endsRet za_ (fn := Tryz.f115) (rs := [.tmp 6, .tmp 7]) Anc.refl hro (lb_ rfl) rfl
    ·exact yi_
    ·exact yl_
    ·exact k6_
    ·rfl
    ·exact k113_
    ·exact zs_
    ·exact fun β => rfl
    ·exact k113_
   ·exact absurd (by unfold yt_; rw [if_neg (fun h => h q1), if_neg (by rw [q2]; exact Bool.noConfusion), if_neg (by rw [q3]; exact Bool.noConfusion)]) hE
 ·have e : yt_ P v s = 180 := by unfold yt_; rw [if_pos q1]
  rw [e]
  refine ze_ (fn := Tryz.f115) 7 32 0 rfl rfl rfl rfl rfl u16_ rfl fun w0 M E hro => ?_
  repeat' (first | refine Ctl.h ?_ | ((with_reducible intro hif); first | (focus (cases hif; done)) | ((try simp only [JH] at hif); try (exfalso; omega))) | ((with_reducible first | apply J22 cOp_ok za_ | apply J23 fol cOp_ok za_ | apply J24); (·rfl); (· (simp only [push_cast, ↓JP, Nat.reduceAdd, Nat.reduceEqDiff, Nat.reduceLT, Nat.reduceMul, Nat.reduceLeDiff, reduceCtorEq, reduceIte, ↓JK, JM, cOp, sCheck, sVRight, sSRight, sCopied, JE, inR, inN, q1]; rfl)); (try kernel_rfl); try exact k119_) | fail)
  apply At.endsRet za_ (fn := Tryz.f115) (rs := [.tmp 6, .tmp 7]) Anc.refl hro (lb_ rfl) rfl
  ·exact yi_
  ·exact yl_
  ·exact k6_
  ·rfl
  ·exact k113_
  ·exact zs_
  ·exact fun β => rfl
  ·exact k113_
def sOpenG : yq_ := fun args h m => match args with
 | [v1, .agg [v2, v3, v4, v5, v6], .agg [v7, .bool v8, .arr 8 1 v9, v10, v11, v12]] => match xa_ h 5 (.tup []) v1, xa_ h 1 (.tup []) v10, xa_ h 3 (.tup []) v12 with
  | some (c1, n1, f1, r1), some (c10, n10, f10, r10), some (c12, n12, f12, r12) => bif isI .u64 v2 && isI .i64 v3 && isI .i64 v4 && isI .i64 v5 && isI .i64 v6 && isI .i64 v7 && isI .i64 v11 then some (c1 ∧ c10 ∧ c12 ∧ (∀ q, q < n1 → isIns (f1 q) = true) ∧ (∀ q, q < n10 → isI .i64 (f10 q) = true) ∧ (∀ q, q < n12 → isSnd (f12 q) = true) ∧ (∀ q, q < 8 → isI .i64 (v9 q) = true) ∧ ((∀ x ∈ (ls zl_ n1 f1), x.ok)) ∧ (n1 ≤ 281474976710656) ∧ (n10 ≤ 1000000) ∧ (n12 ≤ 1000000) ∧ (yt_ (ls zl_ n1 f1) ⟨(iOf v2), (iOf v3), (iOf v4), (iOf v5), (iOf v6)⟩ ⟨(iOf v7), v8, (fun q => iOf (v9 q)), (ls iOf n10 f10), (iOf v11), (ls zv_ n12 f12)⟩ = 0), .tup [.ptr m [], .int .i64 0], r1 ++ r10 ++ r12, [(m, mB ⟨(iOf v7), v8, (fun q => iOf (v9 q)), (ls iOf n10 f10), (iOf v11), (ls zv_ n12 f12)⟩ ⟨(iOf v2), (iOf v3), (iOf v4), (iOf v5), (iOf v6)⟩ Ins0 (m + 1) (m + 2)), (m + 1, cB ⟨(iOf v7), v8, (fun q => iOf (v9 q)), (ls iOf n10 f10), (iOf v11), (ls zv_ n12 f12)⟩), (m + 2, sB ⟨(iOf v7), v8, (fun q => iOf (v9 q)), (ls iOf n10 f10), (iOf v11), (ls zv_ n12 f12)⟩)]) else none
  | _, _, _ => none
 | _ => none
theorem sOpenG_ok : zj_ Tryz.prog 115 sOpenG := by
 refine ⟨zf_ (by kernel_rfl), fun args h m c v rd wr hs hm hc w0 M β h' w R hrd hwr hst => ?_⟩
 unfold sOpenG at hs
 split at hs
 ·rename_i v1 v2 v3 v4 v5 v6 v7 v8 v9 v10 v11 v12
  split at hs
  ·rename_i c1 n1 f1 r1 c10 n10 f10 r10 c12 n12 f12 r12 a1 a10 a12
   obtain ⟨hb, hs⟩ := zk_ hs
   simp only [Option.some.injEq, Prod.mk.injEq] at hs
   obtain ⟨rfl, rfl, rfl, rfl⟩ := hs
   simp only [Bool.and_eq_true] at hb
   obtain ⟨⟨⟨⟨⟨⟨b2, b3⟩, b4⟩, b5⟩, b6⟩, b7⟩, b11⟩ := hb
   obtain ⟨k1, k10, k12, g1, g10, g12, g9, y1, y2, y3, y4, y5⟩ := hc
   obtain ⟨A1, p1, d1, e1, t1⟩ := zg_ R a1 k1 (fun i hi => hrd i (List.mem_append_left _ (List.mem_append_left _ hi))) (by omega)
   obtain ⟨A10, p10, d10, e10, t10⟩ := zg_ R a10 k10 (fun i hi => hrd i (List.mem_append_left _ (List.mem_append_right _ hi))) (by omega)
   obtain ⟨A12, p12, d12, e12, t12⟩ := zg_ R a12 k12 (fun i hi => hrd i (List.mem_append_right _ hi)) (by omega)
   refine yf_ (views := [⟨5, (ls zl_ n1 f1).length, prS (ls zl_ n1 f1), A1, p1⟩, ⟨1, (ls iOf n10 f10).length, i64S (ls iOf n10 f10), A10, p10⟩, ⟨3, (ls zv_ n12 f12).length, zn_ (ls zv_ n12 f12), A12, p12⟩]) (open_good (ls zl_ n1 f1) ⟨(iOf v2), (iOf v3), (iOf v4), (iOf v5), (iOf v6)⟩ ⟨(iOf v7), v8, (fun q => iOf (v9 q)), (ls iOf n10 f10), (iOf v11), (ls zv_ n12 f12)⟩ p1 p10 p12 y1 (by rw [zb_]; exact y2) (by rw [zb_]; exact y3) (by rw [zb_]; exact y4) y5) ?_ R hm hwr ?_ ?_ ?_
   ·intro x hx
    simp only [List.mem_cons, List.not_mem_nil, or_false] at hx
    rcases hx with rfl | rfl | rfl
    ·exact xn_ t1 e1 g1
    ·exact z0_ t10 e10 g10
    ·exact viewSnd t12 e12 g12
   ·intro β1 hv
    simp only [Vd, zb_, and_true] at hv
    obtain ⟨z1, z10, z12⟩ := hv
    simp only [denL, z7_, z6_, z5_, zr_, zb_, z1, z10, z12, d1, d10, d12, zc_ b2, zc_ b3, zc_ b4, zc_ b5, zc_ b6, zc_ b7, zc_ b11, ← r8Den (β := β) (β1 := β1) g9]
   ·exact k113_
   ·exact k113_
  ·cases hs
 ·cases hs
def sOpenB : yq_ := fun args h m => match args with
 | [v1, .agg [v2, v3, v4, v5, v6], .agg [v7, .bool v8, .arr 8 1 v9, v10, v11, v12]] => match xa_ h 5 (.tup []) v1, xa_ h 1 (.tup []) v10, xa_ h 3 (.tup []) v12 with
  | some (c1, n1, f1, r1), some (c10, n10, f10, r10), some (c12, n12, f12, r12) => bif isI .u64 v2 && isI .i64 v3 && isI .i64 v4 && isI .i64 v5 && isI .i64 v6 && isI .i64 v7 && isI .i64 v11 then some (c1 ∧ c10 ∧ c12 ∧ (∀ q, q < n1 → isIns (f1 q) = true) ∧ (∀ q, q < n10 → isI .i64 (f10 q) = true) ∧ (∀ q, q < n12 → isSnd (f12 q) = true) ∧ (∀ q, q < 8 → isI .i64 (v9 q) = true) ∧ ((∀ x ∈ (ls zl_ n1 f1), x.ok)) ∧ (n1 ≤ 281474976710656) ∧ (n10 ≤ 1000000) ∧ (n12 ≤ 1000000) ∧ (yt_ (ls zl_ n1 f1) ⟨(iOf v2), (iOf v3), (iOf v4), (iOf v5), (iOf v6)⟩ ⟨(iOf v7), v8, (fun q => iOf (v9 q)), (ls iOf n10 f10), (iOf v11), (ls zv_ n12 f12)⟩ ≠ 0), .tup [.nilp, .int .i64 (yt_ (ls zl_ n1 f1) ⟨(iOf v2), (iOf v3), (iOf v4), (iOf v5), (iOf v6)⟩ ⟨(iOf v7), v8, (fun q => iOf (v9 q)), (ls iOf n10 f10), (iOf v11), (ls zv_ n12 f12)⟩)], r1 ++ r10 ++ r12, []) else none
  | _, _, _ => none
 | _ => none
theorem sOpenB_ok : zj_ Tryz.prog 115 sOpenB := by
 refine ⟨zf_ (by kernel_rfl), fun args h m c v rd wr hs hm hc w0 M β h' w R hrd hwr hst => ?_⟩
 unfold sOpenB at hs
 split at hs
 ·rename_i v1 v2 v3 v4 v5 v6 v7 v8 v9 v10 v11 v12
  split at hs
  ·rename_i c1 n1 f1 r1 c10 n10 f10 r10 c12 n12 f12 r12 a1 a10 a12
   obtain ⟨hb, hs⟩ := zk_ hs
   simp only [Option.some.injEq, Prod.mk.injEq] at hs
   obtain ⟨rfl, rfl, rfl, rfl⟩ := hs
   simp only [Bool.and_eq_true] at hb
   obtain ⟨⟨⟨⟨⟨⟨b2, b3⟩, b4⟩, b5⟩, b6⟩, b7⟩, b11⟩ := hb
   obtain ⟨k1, k10, k12, g1, g10, g12, g9, y1, y2, y3, y4, y5⟩ := hc
   obtain ⟨A1, p1, d1, e1, t1⟩ := zg_ R a1 k1 (fun i hi => hrd i (List.mem_append_left _ (List.mem_append_left _ hi))) (by omega)
   obtain ⟨A10, p10, d10, e10, t10⟩ := zg_ R a10 k10 (fun i hi => hrd i (List.mem_append_left _ (List.mem_append_right _ hi))) (by omega)
   obtain ⟨A12, p12, d12, e12, t12⟩ := zg_ R a12 k12 (fun i hi => hrd i (List.mem_append_right _ hi)) (by omega)
   refine yf_ (views := [⟨5, (ls zl_ n1 f1).length, prS (ls zl_ n1 f1), A1, p1⟩, ⟨1, (ls iOf n10 f10).length, i64S (ls iOf n10 f10), A10, p10⟩, ⟨3, (ls zv_ n12 f12).length, zn_ (ls zv_ n12 f12), A12, p12⟩]) (open_bad (ls zl_ n1 f1) ⟨(iOf v2), (iOf v3), (iOf v4), (iOf v5), (iOf v6)⟩ ⟨(iOf v7), v8, (fun q => iOf (v9 q)), (ls iOf n10 f10), (iOf v11), (ls zv_ n12 f12)⟩ p1 p10 p12 y1 (by rw [zb_]; exact y2) (by rw [zb_]; exact y3) (by rw [zb_]; exact y4) y5) ?_ R hm hwr ?_ ?_ ?_
   ·intro x hx
    simp only [List.mem_cons, List.not_mem_nil, or_false] at hx
    rcases hx with rfl | rfl | rfl
    ·exact xn_ t1 e1 g1
    ·exact z0_ t10 e10 g10
    ·exact viewSnd t12 e12 g12
   ·intro β1 hv
    simp only [Vd, zb_, and_true] at hv
    obtain ⟨z1, z10, z12⟩ := hv
    simp only [denL, z7_, z6_, z5_, zr_, zb_, z1, z10, z12, d1, d10, d12, zc_ b2, zc_ b3, zc_ b4, zc_ b5, zc_ b6, zc_ b7, zc_ b11, ← r8Den (β := β) (β1 := β1) g9]
   ·exact k113_
   ·exact k113_
  ·cases hs
 ·cases hs
def eB (g i n : Nat) : HB := .own 184 (.agg [.ptr g [], .sl i i [] 5 0 n none]) true
def cBg : FuncId → Option yq_ := y3_ [(35, sCl64)]
theorem cBg_ok : ∀ f S, cBg f = some S → zj_ Tryz.prog f S := zp_ ⟨sCl64_ok, trivial⟩
theorem begin_lit (t s q o y d : Int) (cs : List Int) (p : Nat) (hc : cs.length ≤ 1000000) : zo_ Tryz.prog 82 [.agg [.agg [.int .i64 t, .int .i64 s, .int .i64 q], .int .i64 o, .int .i64 y], .sl 1 2 [] 1 0 cs.length (some p), .int .i64 d] [.gone, .gone, .ro (.arr cs.length 1 (i64S cs))]
  (.agg [.int .i64 0, .bool false, .arr 8 1 (fun j => .int .i64 (begR y t s j)), .sl 3 3 [] 1 0 cs.length none, .int .i64 d, .sl 0 0 [] 0 0 0 (some 0)]) [.gone, .gone, .gone, .own 2 (.arr cs.length 1 (i64S cs)) false] := by
 refine ze_ (fn := Tryz.f82) 3 20 0 rfl rfl rfl rfl rfl u17_ rfl fun w0 M E hro => ?_
 repeat' (first | refine Ctl.h ?_ | ((with_reducible intro hif); first | (focus (cases hif; done)) | ((try simp only [JH] at hif); try (exfalso; omega))) | ((with_reducible first | apply J22 cBg_ok za_ | apply J23 fol cBg_ok za_ | apply J24); (·rfl); (· (simp only [push_cast, ↓JP, Nat.reduceAdd, Nat.reduceEqDiff, Nat.reduceLT, Nat.reduceMul, Nat.reduceLeDiff, reduceCtorEq, reduceIte, ↓JK, JM, cBg, sCl64, JE, inR, inN]; rfl)); (try kernel_rfl); try exact k25_) | fail)
 apply At.endsPick [0, 1, 2, 5] za_ (fn := Tryz.f82) (rs := [.cell 6 60]) Anc.refl hro (lb_ rfl) rfl
 ·exact yi_
 ·exact xf_
 ·rfl
 ·rfl
 ·rfl
 ·exact k29_
 ·rfl
 ·exact k114_
 ·exact zs_
 ·exact fun β => rfl
 ·exact k114_
def sBegin : yq_ := fun args h m => match args with
 | [.agg [.agg [v1, v2, v3], v4, v5], v6, v7] => match xa_ h 1 (.tup []) v6 with
  | some (c6, n6, f6, r6) => bif isI .i64 v1 && isI .i64 v2 && isI .i64 v3 && isI .i64 v4 && isI .i64 v5 && isI .i64 v7 then some (c6 ∧ (∀ q, q < n6 → isI .i64 (f6 q) = true) ∧ (n6 ≤ 1000000), .agg [.int .i64 0, .bool false, .arr 8 1 (fun j => .int .i64 (begR (iOf v5) (iOf v1) (iOf v2) j)), .sl m m [] 1 0 (ls iOf n6 f6).length none, .int .i64 (iOf v7), .sl 0 0 [] 0 0 0 (some 0)], r6, [(m, .own 2 (.arr (ls iOf n6 f6).length 1 (i64S (ls iOf n6 f6))) false)]) else none
  | _ => none
 | _ => none
theorem sBegin_ok : zj_ Tryz.prog 82 sBegin := by
 refine ⟨zf_ (by kernel_rfl), fun args h m c v rd wr hs hm hc w0 M β h' w R hrd hwr hst => ?_⟩
 unfold sBegin at hs
 split at hs
 ·rename_i v1 v2 v3 v4 v5 v6 v7
  split at hs
  ·rename_i c6 n6 f6 r6 a6
   obtain ⟨hb, hs⟩ := zk_ hs
   simp only [Option.some.injEq, Prod.mk.injEq] at hs
   obtain ⟨rfl, rfl, rfl, rfl⟩ := hs
   simp only [Bool.and_eq_true] at hb
   obtain ⟨⟨⟨⟨⟨b1, b2⟩, b3⟩, b4⟩, b5⟩, b7⟩ := hb
   obtain ⟨k6, g6, y1⟩ := hc
   obtain ⟨A6, p6, d6, e6, t6⟩ := zg_ R a6 k6 (fun i hi => hrd i hi) (by omega)
   refine yf_ (views := [⟨1, (ls iOf n6 f6).length, i64S (ls iOf n6 f6), A6, p6⟩]) (begin_lit (iOf v1) (iOf v2) (iOf v3) (iOf v4) (iOf v5) (iOf v7) (ls iOf n6 f6) p6 (by rw [zb_]; exact y1)) ?_ R hm hwr ?_ ?_ ?_
   ·intro x hx
    simp only [List.mem_cons, List.not_mem_nil, or_false] at hx
    subst hx
    ·exact z0_ t6 e6 g6
   ·intro β1 hv
    simp only [Vd, zb_, and_true] at hv
    have z6 := hv
    simp only [denL, z7_, z6_, z5_, zr_, zb_, z6, d6, zc_ b1, zc_ b2, zc_ b3, zc_ b4, zc_ b5, zc_ b7]
   ·exact k114_
   ·exact k114_
  ·cases hs
 ·cases hs
def cOn : FuncId → Option yq_ := y3_ [(115, sOpenG), (34, sClI)]
theorem cOn_ok : ∀ f S, cOn f = some S → zj_ Tryz.prog f S := zp_ ⟨sOpenG_ok, sClI_ok, trivial⟩
theorem Open_good (P : List Ins) (v : Evi) (s : Sta) (p1 p2 p3 : Nat) (hP : ∀ x ∈ P, x.ok) (hn : P.length ≤ 1000000) (hc : s.cells.length ≤ 1000000) (hs : s.sends.length ≤ 1000000) (hE : yt_ P v s = 0) : zo_ Tryz.prog 84 [.sl 1 2 [] 5 0 P.length (some p1), .agg [.int .u64 v.seed, .int .i64 v.process, .int .i64 v.ports, .int .i64 v.look, .int .i64 v.now], .agg [.int .i64 s.at_, .bool s.ended, .arr 8 1 (fun q => .int .i64 (s.regs q)), .sl 3 4 [] 1 0 s.cells.length (some p2), .int .i64 s.draws, .sl 5 6 [] 3 0 s.sends.length (some p3)]]
  [.gone, .gone, .ro (.arr P.length 5 (prS P)), .gone, .ro (.arr s.cells.length 1 (i64S s.cells)), .gone, .ro (.arr s.sends.length 3 (zn_ s.sends))]
  (.tup [.ptr 7 [], .int .i64 0]) [.gone, .gone, .gone, .gone, .gone, .gone, .gone, eB 8 11 P.length, mB s v Ins0 9 10, cB s, sB s, prO P] := by
 have hn2 : P.length ≤ 281474976710656 := by omega
 refine ze_ (fn := Tryz.f84) 7 25 0 rfl rfl rfl rfl rfl u17_ rfl fun w0 M E hro => ?_
 repeat' (first | refine Ctl.h ?_ | ((with_reducible intro hif); first | (focus (cases hif; done)) | ((try simp only [JH] at hif); try (exfalso; omega))) | ((with_reducible first | apply J22 cOn_ok za_ | apply J23 fol cOn_ok za_ | apply J24); (·rfl); (· (simp only [push_cast, ↓JP, Nat.reduceAdd, Nat.reduceEqDiff, Nat.reduceLT, Nat.reduceMul, Nat.reduceLeDiff, reduceCtorEq, reduceIte, ↓JK, cOn, sOpenG, sClI, JE, inR, inN, hE]; rfl)); (try kernel_rfl); try exact k121_) | fail)
 apply At.endsPick [0, 1, 2, 3, 4, 5, 6, 13, 9, 10, 11, 12] za_ (fn := Tryz.f84) (rs := [.tmp 6, .tmp 7]) Anc.refl hro (lb_ rfl) rfl
 ·exact yi_
 ·exact xf_
 ·rfl
 ·rfl
 ·rfl
 ·exact k29_
 ·rfl
 ·exact k114_
 ·exact zs_
 ·exact fun β => rfl
 ·exact k114_
def cOb : FuncId → Option yq_ := y3_ [(115, sOpenB), (34, sClI)]
theorem cOb_ok : ∀ f S, cOb f = some S → zj_ Tryz.prog f S := zp_ ⟨sOpenB_ok, sClI_ok, trivial⟩
theorem Open_bad (P : List Ins) (v : Evi) (s : Sta) (p1 p2 p3 : Nat) (hP : ∀ x ∈ P, x.ok) (hn : P.length ≤ 1000000) (hc : s.cells.length ≤ 1000000) (hs : s.sends.length ≤ 1000000) (hE : yt_ P v s ≠ 0) : zo_ Tryz.prog 84 [.sl 1 2 [] 5 0 P.length (some p1), .agg [.int .u64 v.seed, .int .i64 v.process, .int .i64 v.ports, .int .i64 v.look, .int .i64 v.now], .agg [.int .i64 s.at_, .bool s.ended, .arr 8 1 (fun q => .int .i64 (s.regs q)), .sl 3 4 [] 1 0 s.cells.length (some p2), .int .i64 s.draws, .sl 5 6 [] 3 0 s.sends.length (some p3)]]
  [.gone, .gone, .ro (.arr P.length 5 (prS P)), .gone, .ro (.arr s.cells.length 1 (i64S s.cells)), .gone, .ro (.arr s.sends.length 3 (zn_ s.sends))]
  (.tup [.nilp, .int .i64 (yt_ P v s)]) [.gone] := by
 have hn2 : P.length ≤ 281474976710656 := by omega
 refine ze_ (fn := Tryz.f84) 7 25 0 rfl rfl rfl rfl rfl u17_ rfl fun w0 M E hro => ?_
 repeat' (first | refine Ctl.h ?_ | ((with_reducible intro hif); first | (focus (cases hif; done)) | ((try simp only [JH] at hif); try (exfalso; omega))) | ((with_reducible first | apply J22 cOb_ok za_ | apply J23 fol cOb_ok za_ | apply J24); (·rfl); (· (simp only [push_cast, ↓JP, Nat.reduceAdd, Nat.reduceEqDiff, Nat.reduceLT, Nat.reduceMul, Nat.reduceLeDiff, reduceCtorEq, reduceIte, ↓JK, cOb, sOpenB, sClI, JE, inR, inN, hE]; rfl)); (try kernel_rfl); try exact k121_) | fail)
 apply At.endsRet za_ (fn := Tryz.f84) (rs := [.tmp 6, .tmp 7]) Anc.refl hro (lb_ rfl) rfl
 ·exact yi_
 ·exact yl_
 ·exact k6_
 ·rfl
 ·exact k114_
 ·exact zs_
 ·exact fun β => rfl
 ·exact k114_
def sOnG : yq_ := fun args h m => match args with
 | [v1, .agg [v2, v3, v4, v5, v6], .agg [v7, .bool v8, .arr 8 1 v9, v10, v11, v12]] => match xa_ h 5 (.tup []) v1, xa_ h 1 (.tup []) v10, xa_ h 3 (.tup []) v12 with
  | some (c1, n1, f1, r1), some (c10, n10, f10, r10), some (c12, n12, f12, r12) => bif isI .u64 v2 && isI .i64 v3 && isI .i64 v4 && isI .i64 v5 && isI .i64 v6 && isI .i64 v7 && isI .i64 v11 then some (c1 ∧ c10 ∧ c12 ∧ (∀ q, q < n1 → isIns (f1 q) = true) ∧ (∀ q, q < n10 → isI .i64 (f10 q) = true) ∧ (∀ q, q < n12 → isSnd (f12 q) = true) ∧ (∀ q, q < 8 → isI .i64 (v9 q) = true) ∧ ((∀ x ∈ (ls zl_ n1 f1), x.ok)) ∧ (n1 ≤ 1000000) ∧ (n10 ≤ 1000000) ∧ (n12 ≤ 1000000) ∧ (yt_ (ls zl_ n1 f1) ⟨(iOf v2), (iOf v3), (iOf v4), (iOf v5), (iOf v6)⟩ ⟨(iOf v7), v8, (fun q => iOf (v9 q)), (ls iOf n10 f10), (iOf v11), (ls zv_ n12 f12)⟩ = 0), .tup [.ptr m [], .int .i64 0], r1 ++ r10 ++ r12, [(m, eB (m + 1) (m + 4) (ls zl_ n1 f1).length), (m + 1, mB ⟨(iOf v7), v8, (fun q => iOf (v9 q)), (ls iOf n10 f10), (iOf v11), (ls zv_ n12 f12)⟩ ⟨(iOf v2), (iOf v3), (iOf v4), (iOf v5), (iOf v6)⟩ Ins0 (m + 2) (m + 3)), (m + 2, cB ⟨(iOf v7), v8, (fun q => iOf (v9 q)), (ls iOf n10 f10), (iOf v11), (ls zv_ n12 f12)⟩), (m + 3, sB ⟨(iOf v7), v8, (fun q => iOf (v9 q)), (ls iOf n10 f10), (iOf v11), (ls zv_ n12 f12)⟩), (m + 4, prO (ls zl_ n1 f1))]) else none
  | _, _, _ => none
 | _ => none
theorem sOnG_ok : zj_ Tryz.prog 84 sOnG := by
 refine ⟨zf_ (by kernel_rfl), fun args h m c v rd wr hs hm hc w0 M β h' w R hrd hwr hst => ?_⟩
 unfold sOnG at hs
 split at hs
 ·rename_i v1 v2 v3 v4 v5 v6 v7 v8 v9 v10 v11 v12
  split at hs
  ·rename_i c1 n1 f1 r1 c10 n10 f10 r10 c12 n12 f12 r12 a1 a10 a12
   obtain ⟨hb, hs⟩ := zk_ hs
   simp only [Option.some.injEq, Prod.mk.injEq] at hs
   obtain ⟨rfl, rfl, rfl, rfl⟩ := hs
   simp only [Bool.and_eq_true] at hb
   obtain ⟨⟨⟨⟨⟨⟨b2, b3⟩, b4⟩, b5⟩, b6⟩, b7⟩, b11⟩ := hb
   obtain ⟨k1, k10, k12, g1, g10, g12, g9, y1, y2, y3, y4, y5⟩ := hc
   obtain ⟨A1, p1, d1, e1, t1⟩ := zg_ R a1 k1 (fun i hi => hrd i (List.mem_append_left _ (List.mem_append_left _ hi))) (by omega)
   obtain ⟨A10, p10, d10, e10, t10⟩ := zg_ R a10 k10 (fun i hi => hrd i (List.mem_append_left _ (List.mem_append_right _ hi))) (by omega)
   obtain ⟨A12, p12, d12, e12, t12⟩ := zg_ R a12 k12 (fun i hi => hrd i (List.mem_append_right _ hi)) (by omega)
   refine yf_ (views := [⟨5, (ls zl_ n1 f1).length, prS (ls zl_ n1 f1), A1, p1⟩, ⟨1, (ls iOf n10 f10).length, i64S (ls iOf n10 f10), A10, p10⟩, ⟨3, (ls zv_ n12 f12).length, zn_ (ls zv_ n12 f12), A12, p12⟩]) (Open_good (ls zl_ n1 f1) ⟨(iOf v2), (iOf v3), (iOf v4), (iOf v5), (iOf v6)⟩ ⟨(iOf v7), v8, (fun q => iOf (v9 q)), (ls iOf n10 f10), (iOf v11), (ls zv_ n12 f12)⟩ p1 p10 p12 y1 (by rw [zb_]; exact y2) (by rw [zb_]; exact y3) (by rw [zb_]; exact y4) y5) ?_ R hm hwr ?_ ?_ ?_
   ·intro x hx
    simp only [List.mem_cons, List.not_mem_nil, or_false] at hx
    rcases hx with rfl | rfl | rfl
    ·exact xn_ t1 e1 g1
    ·exact z0_ t10 e10 g10
    ·exact viewSnd t12 e12 g12
   ·intro β1 hv
    simp only [Vd, zb_, and_true] at hv
    obtain ⟨z1, z10, z12⟩ := hv
    simp only [denL, z7_, z6_, z5_, zr_, zb_, z1, z10, z12, d1, d10, d12, zc_ b2, zc_ b3, zc_ b4, zc_ b5, zc_ b6, zc_ b7, zc_ b11, ← r8Den (β := β) (β1 := β1) g9]
   ·exact k114_
   ·exact k114_
  ·cases hs
 ·cases hs
def sOnB : yq_ := fun args h m => match args with
 | [v1, .agg [v2, v3, v4, v5, v6], .agg [v7, .bool v8, .arr 8 1 v9, v10, v11, v12]] => match xa_ h 5 (.tup []) v1, xa_ h 1 (.tup []) v10, xa_ h 3 (.tup []) v12 with
  | some (c1, n1, f1, r1), some (c10, n10, f10, r10), some (c12, n12, f12, r12) => bif isI .u64 v2 && isI .i64 v3 && isI .i64 v4 && isI .i64 v5 && isI .i64 v6 && isI .i64 v7 && isI .i64 v11 then some (c1 ∧ c10 ∧ c12 ∧ (∀ q, q < n1 → isIns (f1 q) = true) ∧ (∀ q, q < n10 → isI .i64 (f10 q) = true) ∧ (∀ q, q < n12 → isSnd (f12 q) = true) ∧ (∀ q, q < 8 → isI .i64 (v9 q) = true) ∧ ((∀ x ∈ (ls zl_ n1 f1), x.ok)) ∧ (n1 ≤ 1000000) ∧ (n10 ≤ 1000000) ∧ (n12 ≤ 1000000) ∧ (yt_ (ls zl_ n1 f1) ⟨(iOf v2), (iOf v3), (iOf v4), (iOf v5), (iOf v6)⟩ ⟨(iOf v7), v8, (fun q => iOf (v9 q)), (ls iOf n10 f10), (iOf v11), (ls zv_ n12 f12)⟩ ≠ 0), .tup [.nilp, .int .i64 (yt_ (ls zl_ n1 f1) ⟨(iOf v2), (iOf v3), (iOf v4), (iOf v5), (iOf v6)⟩ ⟨(iOf v7), v8, (fun q => iOf (v9 q)), (ls iOf n10 f10), (iOf v11), (ls zv_ n12 f12)⟩)], r1 ++ r10 ++ r12, []) else none
  | _, _, _ => none
 | _ => none
theorem sOnB_ok : zj_ Tryz.prog 84 sOnB := by
 refine ⟨zf_ (by kernel_rfl), fun args h m c v rd wr hs hm hc w0 M β h' w R hrd hwr hst => ?_⟩
 unfold sOnB at hs
 split at hs
 ·rename_i v1 v2 v3 v4 v5 v6 v7 v8 v9 v10 v11 v12
  split at hs
  ·rename_i c1 n1 f1 r1 c10 n10 f10 r10 c12 n12 f12 r12 a1 a10 a12
   obtain ⟨hb, hs⟩ := zk_ hs
   simp only [Option.some.injEq, Prod.mk.injEq] at hs
   obtain ⟨rfl, rfl, rfl, rfl⟩ := hs
   simp only [Bool.and_eq_true] at hb
   obtain ⟨⟨⟨⟨⟨⟨b2, b3⟩, b4⟩, b5⟩, b6⟩, b7⟩, b11⟩ := hb
   obtain ⟨k1, k10, k12, g1, g10, g12, g9, y1, y2, y3, y4, y5⟩ := hc
   obtain ⟨A1, p1, d1, e1, t1⟩ := zg_ R a1 k1 (fun i hi => hrd i (List.mem_append_left _ (List.mem_append_left _ hi))) (by omega)
   obtain ⟨A10, p10, d10, e10, t10⟩ := zg_ R a10 k10 (fun i hi => hrd i (List.mem_append_left _ (List.mem_append_right _ hi))) (by omega)
   obtain ⟨A12, p12, d12, e12, t12⟩ := zg_ R a12 k12 (fun i hi => hrd i (List.mem_append_right _ hi)) (by omega)
   refine yf_ (views := [⟨5, (ls zl_ n1 f1).length, prS (ls zl_ n1 f1), A1, p1⟩, ⟨1, (ls iOf n10 f10).length, i64S (ls iOf n10 f10), A10, p10⟩, ⟨3, (ls zv_ n12 f12).length, zn_ (ls zv_ n12 f12), A12, p12⟩]) (Open_bad (ls zl_ n1 f1) ⟨(iOf v2), (iOf v3), (iOf v4), (iOf v5), (iOf v6)⟩ ⟨(iOf v7), v8, (fun q => iOf (v9 q)), (ls iOf n10 f10), (iOf v11), (ls zv_ n12 f12)⟩ p1 p10 p12 y1 (by rw [zb_]; exact y2) (by rw [zb_]; exact y3) (by rw [zb_]; exact y4) y5) ?_ R hm hwr ?_ ?_ ?_
   ·intro x hx
    simp only [List.mem_cons, List.not_mem_nil, or_false] at hx
    rcases hx with rfl | rfl | rfl
    ·exact xn_ t1 e1 g1
    ·exact z0_ t10 e10 g10
    ·exact viewSnd t12 e12 g12
   ·intro β1 hv
    simp only [Vd, zb_, and_true] at hv
    obtain ⟨z1, z10, z12⟩ := hv
    simp only [denL, z7_, z6_, z5_, zr_, zb_, z1, z10, z12, d1, d10, d12, zc_ b2, zc_ b3, zc_ b4, zc_ b5, zc_ b6, zc_ b7, zc_ b11, ← r8Den (β := β) (β1 := β1) g9]
   ·exact k114_
   ·exact k114_
  ·cases hs
 ·cases hs
end Go.Proofs.YtjliakjbdcplcaaGreat.Vm
end
section
namespace Go.Proofs.YtjliakjbdcplcaaGreat.Vm
open Go.RowKit
def eS (g i n : Nat) : SV := .agg [.ptr g [], .sl i i [] 5 0 n none]
section
variable {ρ : Nat → Nat} {h h' : HM} {g c k e i n : Nat} {s : Sta} {v : Evi} {x : Ins} {P : List Ins} {ok : Prop}
theorem bun_celR (hp : macP h g = some (s, v, x, c, k, ok)) (hok : ok) (ec : h' c = h c) : Bun1 ρ (h' c) (.ro (.arr s.cells.length 1 (i64S s.cells))) := by
 obtain ⟨l, cf, sf, hg, hgl, hc, hcl, _⟩ := mac_val hp hok
 exact Fit.ro (u := .arr s.cells.length 1 cf) (by rw [ec, hc]; rfl) (fun β => arrCl (hcl β)) (fun n k f e => by injection e with e1 e2 e3; subst e1 e2; exact ⟨_, rfl⟩)
theorem bun_sndR (hp : macP h g = some (s, v, x, c, k, ok)) (hok : ok) (ek : h' k = h k) : Bun1 ρ (h' k) (.ro (.arr s.sends.length 3 (zn_ s.sends))) := by
 obtain ⟨l, cf, sf, hg, hgl, hc, hcl, hk, hkl, _⟩ := mac_val hp hok
 exact Fit.ro (u := .arr s.sends.length 3 sf) (by rw [ek, hk]; rfl) (fun β => by simp only [SV.ren, sndsS_ren]; exact arrCl (hkl β)) (fun n k f e => by simp only [SV.ren] at e; injection e with e1 e2 e3; subst e1 e2; exact ⟨_, rfl⟩)
def engP (h : HM) (e : Nat) : Option (Sta × Evi × Ins × List Ins × (Nat × Nat × Nat × Nat) × Prop) := match h e with
 | .own t (.agg [.ptr g [], .sl z i [] 5 0 n none]) true => match macP h g, prP h i with
  | some (s, v, x, c, k, ok), some (n', P, ok2) => bif Nat.beq t 184 && (Nat.beq z i && Nat.beq n n') && yr_ [0, e, g, c, k, i] then some (s, v, x, P, (g, c, k, i), ok ∧ ok2) else none
  | _, _ => none
 | _ => none
theorem engP_val {q : Nat × Nat × Nat × Nat} (hp : engP h e = some (s, v, x, P, q, ok)) : ∃ ok1 ok2, ok = (ok1 ∧ ok2) ∧ macP h q.1 = some (s, v, x, q.2.1, q.2.2.1, ok1) ∧ prP h q.2.2.2 = some (P.length, P, ok2) ∧ h e = .own 184 (eS q.1 q.2.2.2 P.length) true ∧ yr_ [0, e, q.1, q.2.1, q.2.2.1, q.2.2.2] = true := by
 unfold engP at hp
 split at hp
 ·rename_i t g z i n he
  split at hp
  ·rename_i s v x c k ok1 n' P ok2 hmp hpp
   obtain ⟨hb, hs⟩ := zk_ hp
   simp only [Option.some.injEq, Prod.mk.injEq] at hs
   obtain ⟨rfl, rfl, rfl, rfl, rfl, rfl⟩ := hs
   simp only [Bool.and_eq_true] at hb
   obtain ⟨⟨b1, b2, b3⟩, b4⟩ := hb
   have b1 := Nat.eq_of_beq_eq_true b1
   have b2 := Nat.eq_of_beq_eq_true b2
   have b3 := Nat.eq_of_beq_eq_true b3
   subst b1 b2 b3
   have hl := prP_len hpp
   subst hl
   exact ⟨ok1, ok2, rfl, hmp, hpp, he, b4⟩
  ·cases hp
 ·cases hp
theorem bun_eng {t g i n a b : Nat} {ex : Bool} (he : h e = .own t (eS g i n) ex) (ee : h' e = h e) (ha : ρ a = g) (hb : ρ b = i) : Bun1 ρ (h' e) (.ro (eS a b n)) := by
 exact Fit.ro (u := eS g i n) (by rw [ee, he]; rfl) (fun β => by simp only [eS, SV.ren, renL, ha, hb]) (fun n k f e => by cases e)
end
def eN : yq_ := fun args h m => match args with
 | [.ptr e []] => match h e with
  | .own t (.agg [.ptr g [], .sl z i [] 5 0 n none]) true => bif (h g).born && (h i).born && Nat.beq z i then some (True, .bool false, [e, g, i], []) else none
  | _ => none
 | _ => none
theorem none_lit (n : Nat) : zo_ Tryz.prog 92 [.ptr 1 []] [.gone, .ro (eS 2 3 n), .gone, .gone] (.bool false) [.gone, .gone, .gone, .gone] := by
 refine ze_ (fn := Tryz.f92) 4 12 0 rfl rfl rfl rfl rfl u18_ rfl fun w0 M E hro => ?_
 repeat' (first | refine Ctl.h ?_ | ((with_reducible intro hif); first | (focus (cases hif; done)) | ((try simp only [JH] at hif); try (exfalso; omega))) | ((with_reducible first | apply J22 zq_ za_ | apply J23 fol zq_ za_ | apply J24); (·rfl); (· (simp only [push_cast, ↓JP, Nat.reduceAdd, Nat.reduceEqDiff, Nat.reduceLT, Nat.reduceMul, Nat.reduceLeDiff, reduceCtorEq, reduceIte, ↓JK, eS, inR, inN]; rfl)); (try kernel_rfl); try exact k25_) | fail)
 apply At.endsPick [0, 1, 2, 3] za_ (fn := Tryz.f92) (rs := [.tmp 2]) Anc.refl hro (lb_ rfl) rfl
 ·exact yi_
 ·exact xf_
 ·rfl
 ·rfl
 ·rfl
 ·exact k29_
 ·rfl
 ·exact k115_
 ·exact zs_
 ·exact fun β => rfl
 ·exact k115_
theorem eN_ok : zj_ Tryz.prog 92 eN := by
 refine ⟨zf_ (by kernel_rfl), fun args h m c v rd wr hs hm hc w0 M β h' w R hrd hwr hst => ?_⟩
 unfold eN at hs
 split at hs
 ·rename_i e
  split at hs
  ·rename_i t g z i n he
   obtain ⟨hb, hs⟩ := zk_ hs
   simp only [Option.some.injEq, Prod.mk.injEq] at hs
   obtain ⟨rfl, rfl, rfl, rfl⟩ := hs
   simp only [Bool.and_eq_true] at hb
   obtain ⟨⟨b1, b2⟩, b3⟩ := hb
   have b3 := Nat.eq_of_beq_eq_true b3
   subst b3
   have C := callG (h := h) (m := m) [0, e, g, z] (none_lit n) R rfl (by simp) rfl rfl rfl
    ⟨.gone (by rw [R.nil0]; rfl), bun_eng (t := t) (ex := true) he (hrd e (by simp)) rfl rfl, .gone (by rw [hrd g (by simp)]; exact b1), .gone (by rw [hrd z (by simp)]; exact b2), trivial⟩ hm (fun p hp => by cases hp) (by simp)
    (by simp [y8_, HB.stable, eS, Stable, zd_, hp, HB.born]) ⟨rfl, trivial⟩ trivial trivial
   exact C
  ·cases hs
 ·cases hs
def cEn : FuncId → Option yq_ := y3_ [(92, eN), (122, pS), (93, sCopied)]
theorem cEn_ok : ∀ f S, cEn f = some S → zj_ Tryz.prog f S := zp_ ⟨eN_ok, pS_ok, sCopied_ok, trivial⟩
theorem ended_lit (n : Nat) (s : Sta) (v : Evi) (x : Ins) : zo_ Tryz.prog 89 [.ptr 1 []] [.gone, .own 184 (eS 2 5 n) true, .ro (macS s v x 3 4), .gone, .gone, .gone] (.bool s.ended) [.gone, .own 184 (eS 2 5 n) true, .gone, .gone, .gone, .gone] := by
 refine ze_ (fn := Tryz.f89) 6 16 0 rfl rfl rfl rfl rfl u18_ rfl fun w0 M E hro => ?_
 repeat' (first | refine Ctl.h ?_ | ((with_reducible intro hif); first | (focus (cases hif; done)) | ((try simp only [JH] at hif); try (exfalso; omega))) | ((with_reducible first | apply J22 cEn_ok za_ | apply J23 fol cEn_ok za_ | apply J24); (·rfl); (· exact k122_); (try kernel_rfl); try exact k25_) | fail)
 apply At.endsPick [0, 1, 2, 3, 4, 5] za_ (fn := Tryz.f89) (rs := [.tmp 2]) Anc.refl hro (lb_ rfl) rfl
 ·exact yi_
 ·exact xf_
 ·rfl
 ·rfl
 ·rfl
 ·exact k29_
 ·rfl
 ·exact k115_
 ·exact zs_
 ·exact fun β => rfl
 ·exact k115_
theorem at_lit (n : Nat) (s : Sta) (v : Evi) (x : Ins) : zo_ Tryz.prog 90 [.ptr 1 []] [.gone, .own 184 (eS 2 5 n) true, .ro (macS s v x 3 4), .gone, .gone, .gone] (.int .i64 s.at_) [.gone, .own 184 (eS 2 5 n) true, .gone, .gone, .gone, .gone] := by
 refine ze_ (fn := Tryz.f90) 6 13 0 rfl rfl rfl rfl rfl u18_ rfl fun w0 M E hro => ?_
 repeat' (first | refine Ctl.h ?_ | ((with_reducible intro hif); first | (focus (cases hif; done)) | ((try simp only [JH] at hif); try (exfalso; omega))) | ((with_reducible first | apply J22 cEn_ok za_ | apply J23 fol cEn_ok za_ | apply J24); (·rfl); (· exact k122_); (try kernel_rfl); try exact k25_) | fail)
 apply At.endsPick [0, 1, 2, 3, 4, 5] za_ (fn := Tryz.f90) (rs := [.tmp 2]) Anc.refl hro (lb_ rfl) rfl
 ·exact yi_
 ·exact xf_
 ·rfl
 ·rfl
 ·rfl
 ·exact k29_
 ·rfl
 ·exact k115_
 ·exact zs_
 ·exact fun β => rfl
 ·exact k115_
theorem state_lit (n : Nat) (s : Sta) (v : Evi) (x : Ins) (hc : s.cells.length ≤ 1000000) (hs : s.sends.length ≤ 1000000) : zo_ Tryz.prog 50 [.ptr 1 []] [.gone, .own 184 (eS 2 5 n) true, .ro (macS s v x 3 4), .ro (.arr s.cells.length 1 (i64S s.cells)), .ro (.arr s.sends.length 3 (zn_ s.sends)), .gone] (stS s 6 7) [.gone, .own 184 (eS 2 5 n) true, .gone, .gone, .gone, .gone, cB s, sB s] := by
 refine ze_ (fn := Tryz.f50) 6 14 0 rfl rfl rfl rfl rfl u18_ rfl fun w0 M E hro => ?_
 repeat' (first | refine Ctl.h ?_ | ((with_reducible intro hif); first | (focus (cases hif; done)) | ((try simp only [JH] at hif); try (exfalso; omega))) | ((with_reducible first | apply J22 cEn_ok za_ | apply J23 fol cEn_ok za_ | apply J24); (·rfl); (· (simp only [push_cast, ↓JP, Nat.reduceAdd, Nat.reduceEqDiff, Nat.reduceLT, Nat.reduceMul, Nat.reduceLeDiff, reduceCtorEq, reduceIte, ↓JK, JM, JE, eS, cEn, eN, sCopied, inR, inN]; rfl)); (try kernel_rfl); try exact k25_) | fail)
 apply At.endsPick [0, 1, 2, 3, 4, 5, 7, 8] za_ (fn := Tryz.f50) (rs := [.cell 2 60]) Anc.refl hro (lb_ rfl) rfl
 ·exact yi_
 ·exact xf_
 ·rfl
 ·rfl
 ·rfl
 ·exact k29_
 ·rfl
 ·exact k115_
 ·exact zs_
 ·exact fun β => rfl
 ·exact k115_
theorem Step_lit (P : List Ins) (s : Sta) (v : Evi) (x : Ins) (hP : PG P) (V : VOk v) (hS : SG P s) : zo_ Tryz.prog 91 [.ptr 1 []] [.gone, .own 184 (eS 2 5 P.length) true, mB s v x 3 4, cB s, sB s, prO P] (.int .i64 (xg_ P v s))
  [.gone, .own 184 (eS 2 5 P.length) true, mB (xp_ P v s) v (stepX P s x) 3 6, cB (xp_ P v s), .gone, prO P, sB (xp_ P v s)] := by
 refine ze_ (fn := Tryz.f91) 6 14 0 rfl rfl rfl rfl rfl (by simp only [zd_, Stable, hp, i64S, prS, yo_, zn_, sndS, stS, evS, macS, mB, cB, sB, eS, prO, prR, HB.stable]; simp [HB.born, mB, cB, sB, prO]) rfl fun w0 M E hro => ?_
 repeat' (first | refine Ctl.h ?_ | ((with_reducible intro hif); first | (focus (cases hif; done)) | ((try simp only [JH] at hif); try (exfalso; omega))) | ((with_reducible first | apply J22 cEn_ok za_ | apply J23 fol cEn_ok za_ | apply J24); (·rfl); (· (simp only [push_cast, ↓JP, Nat.reduceAdd, Nat.reduceEqDiff, Nat.reduceLT, Nat.reduceMul, Nat.reduceLeDiff, reduceCtorEq, reduceIte, ↓JK, JM, JE, eS, prO, prP, macP, yr_, memN, cEn, eN, pS, inR, inN]; rfl)); (try kernel_rfl); try exact k25_) | fail)
 apply At.endsPick [0, 1, 2, 3, 4, 5, 6] za_ (fn := Tryz.f91) (rs := [.tmp 2]) Anc.refl hro (lb_ rfl) rfl
 ·exact yi_
 ·exact xf_
 ·rfl
 ·rfl
 ·rfl
 ·exact k29_
 ·rfl
 ·exact k115_
 ·exact zs_
 ·exact fun β => rfl
 ·exact k115_
end Go.Proofs.YtjliakjbdcplcaaGreat.Vm
end
section
namespace Go.Proofs.YtjliakjbdcplcaaGreat.Vm
open Go.RowKit
theorem eB_ren (ρ : Nat → Nat) (g i n : Nat) : (eB g i n).ren ρ = eB (ρ g) (ρ i) n := rfl
theorem prO_ren (ρ : Nat → Nat) (P : List Ins) : (prO P).ren ρ = prO P := by
 simp only [prO, HB.ren, SV.ren, prS_ren]
theorem prO_st {h : HM} {P : List Ins} : (prO P).stable h := fun q => prS_stable q
theorem eB_st {h : HM} {g i n : Nat} (hg : (h g).born = true) (hi : (h i).born = true) : (eB g i n).stable h := by
 simp [eB, HB.stable, Stable, zd_, hg, hi]
theorem bun_engO {ρ : Nat → Nat} {h h' : HM} {e g i n a b : Nat} (he : h e = .own 184 (eS g i n) true) (ee : h' e = h e) (ha : ρ a = g) (hb : ρ b = i) : Bun1 ρ (h' e) (eB a b n) := by
 show Less (h' e) (.own 184 ((eS a b n).ren ρ) true)
 rw [ee, he]
 simp only [eS, SV.ren, renL, ha, hb]
 exact .same _
theorem bun_prO {ρ : Nat → Nat} {h h' : HM} {i n : Nat} {P : List Ins} {ok : Prop} (hp : prP h i = some (n, P, ok)) (hok : ok) (ei : h' i = h i) : Bun1 ρ (h' i) (prO P) := by
 unfold prP at hp
 split at hp
 ·rename_i t n f hi
  obtain ⟨hb, hs⟩ := zk_ hp
  simp only [Option.some.injEq, Prod.mk.injEq] at hs
  obtain ⟨rfl, rfl, rfl⟩ := hs
  have := Nat.eq_of_beq_eq_true hb
  subst this
  show Less (h' i) (.own 38 (.arr (ls zl_ n f).length 5 fun q => (prS (ls zl_ n f) q).ren ρ) false)
  rw [ei, hi, prS_ren, zb_]
  refine .val (fun β => arrCl fun q hq => ?_) (fun n k f e => by injection e with e1 e2 e3; subst e1 e2; exact ⟨_, rfl⟩) (fun n k f e => by injection e with e1 e2 e3; subst e1 e2; exact ⟨_, rfl⟩)
  unfold prS
  rw [isIns_cl (hok q hq), ls_getD hq, isIns_cl (z4_ _), yh_]
 ·cases hp
theorem macS_st {h : HM} {s : Sta} {v : Evi} {x : Ins} {c k : Nat} (hc : (h c).born = true) (hk : (h k).born = true) : (HB.ro (macS s v x c k)).stable h := by
 simp [HB.stable, macS, stS, evS, yo_, Stable, zd_, hc, hk]
theorem celR_st {h : HM} {l : List Int} : (HB.ro (.arr l.length 1 (i64S l))).stable h := fun q => i64S_stable q
theorem sndR_st {h : HM} {l : List Snd} : (HB.ro (.arr l.length 3 (zn_ l))).stable h := fun q => y5_ q
def eEnded : yq_ := fun args h m => match args with
 | [.ptr e []] => match engP h e with
  | some (s, v, x, P, (g, c, k, i), ok) => some (ok ∧ True, .bool s.ended, [e, g, c, k, i], [(e, eB g i P.length)])
  | none => none
 | _ => none
theorem eEnded_ok : zj_ Tryz.prog 89 eEnded := by
 refine ⟨zf_ (by kernel_rfl), fun args h m c v rd wr hs hm hc w0 M β h' w R hrd hwr hst => ?_⟩
 unfold eEnded at hs
 split at hs
 ·rename_i e
  split at hs
  ·rename_i s v x P g c k i ok hep
   simp only [Option.some.injEq, Prod.mk.injEq] at hs
   obtain ⟨rfl, rfl, rfl, rfl⟩ := hs
   obtain ⟨ok1, ok2, rfl, hmp, hpp, he, hnd⟩ := engP_val hep
   obtain ⟨⟨hok, hok2⟩, _⟩ := hc
   have ee := hrd e (by simp)
   have eg := hrd g (by simp)
   have ec := hrd c (by simp)
   have ek := hrd k (by simp)
   have ei := hrd i (by simp)
   exact bun_ok (h := h) (m := m) [0, e, g, c, k, i] (ended_lit P.length s v x) R rfl (by simp) rfl rfl hnd
    ⟨Fit.gone (by rw [R.nil0]; rfl), bun_engO he ee rfl rfl, bun_macR hmp hok eg rfl rfl, bun_cel0 hmp hok ec, bun_snd0 hmp hok ek, bun_pr0 hpp ei, trivial⟩ hm
    (fun p hp => by cases hp) (by simp) rfl
    ⟨trivial, eB_st rfl rfl, macS_st rfl rfl, trivial, trivial, trivial, trivial⟩ ⟨rfl, trivial⟩
    ⟨trivial, eB_st rfl rfl, macS_st rfl rfl, trivial, trivial, trivial, trivial⟩ (trivial) rfl rfl (by rfl)
  ·cases hs
 ·cases hs
def eAt : yq_ := fun args h m => match args with
 | [.ptr e []] => match engP h e with
  | some (s, v, x, P, (g, c, k, i), ok) => some (ok ∧ True, .int .i64 s.at_, [e, g, c, k, i], [(e, eB g i P.length)])
  | none => none
 | _ => none
theorem eAt_ok : zj_ Tryz.prog 90 eAt := by
 refine ⟨zf_ (by kernel_rfl), fun args h m c v rd wr hs hm hc w0 M β h' w R hrd hwr hst => ?_⟩
 unfold eAt at hs
 split at hs
 ·rename_i e
  split at hs
  ·rename_i s v x P g c k i ok hep
   simp only [Option.some.injEq, Prod.mk.injEq] at hs
   obtain ⟨rfl, rfl, rfl, rfl⟩ := hs
   obtain ⟨ok1, ok2, rfl, hmp, hpp, he, hnd⟩ := engP_val hep
   obtain ⟨⟨hok, hok2⟩, _⟩ := hc
   have ee := hrd e (by simp)
   have eg := hrd g (by simp)
   have ec := hrd c (by simp)
   have ek := hrd k (by simp)
   have ei := hrd i (by simp)
   exact bun_ok (h := h) (m := m) [0, e, g, c, k, i] (at_lit P.length s v x) R rfl (by simp) rfl rfl hnd
    ⟨Fit.gone (by rw [R.nil0]; rfl), bun_engO he ee rfl rfl, bun_macR hmp hok eg rfl rfl, bun_cel0 hmp hok ec, bun_snd0 hmp hok ek, bun_pr0 hpp ei, trivial⟩ hm
    (fun p hp => by cases hp) (by simp) rfl
    ⟨trivial, eB_st rfl rfl, macS_st rfl rfl, trivial, trivial, trivial, trivial⟩ ⟨rfl, trivial⟩
    ⟨trivial, eB_st rfl rfl, macS_st rfl rfl, trivial, trivial, trivial, trivial⟩ (trivial) rfl rfl (by rfl)
  ·cases hs
 ·cases hs
def xm_ : yq_ := fun args h m => match args with
 | [.ptr e []] => match engP h e with
  | some (s, v, x, P, (g, c, k, i), ok) => some (ok ∧ s.cells.length ≤ 1000000 ∧ s.sends.length ≤ 1000000, stS s m (m + 1), [e, g, c, k, i], [(e, eB g i P.length), (m, cB s), (m + 1, sB s)])
  | none => none
 | _ => none
theorem eState_ok : zj_ Tryz.prog 50 xm_ := by
 refine ⟨zf_ (by kernel_rfl), fun args h m c v rd wr hs hm hc w0 M β h' w R hrd hwr hst => ?_⟩
 unfold xm_ at hs
 split at hs
 ·rename_i e
  split at hs
  ·rename_i s v x P g c k i ok hep
   simp only [Option.some.injEq, Prod.mk.injEq] at hs
   obtain ⟨rfl, rfl, rfl, rfl⟩ := hs
   obtain ⟨ok1, ok2, rfl, hmp, hpp, he, hnd⟩ := engP_val hep
   obtain ⟨⟨hok, hok2⟩, hc1, hs1⟩ := hc
   have ee := hrd e (by simp)
   have eg := hrd g (by simp)
   have ec := hrd c (by simp)
   have ek := hrd k (by simp)
   have ei := hrd i (by simp)
   exact bun_ok (h := h) (m := m) [0, e, g, c, k, i] (state_lit P.length s v x hc1 hs1) R rfl (by simp) rfl rfl hnd
    ⟨Fit.gone (by rw [R.nil0]; rfl), bun_engO he ee rfl rfl, bun_macR hmp hok eg rfl rfl, bun_celR hmp hok ec, bun_sndR hmp hok ek, bun_pr0 hpp ei, trivial⟩ hm
    (fun p hp => by
     simp only [newB, List.drop, List.length_cons, List.length_nil, List.mem_cons, List.not_mem_nil, or_false] at hp
     rcases hp with rfl | rfl
     ·exact hwr (m, cB s) (by simp)
     ·exact hwr (m + 1, sB s) (by simp)) (by simp) rfl
    ⟨trivial, eB_st rfl rfl, macS_st rfl rfl, celR_st, sndR_st, trivial, trivial⟩ ⟨rfl, trivial⟩
    ⟨trivial, eB_st rfl rfl, macS_st rfl rfl, celR_st, sndR_st, trivial, cB_st, sB_st, trivial⟩ (by simp [stS, Stable, zd_]; exact ⟨rfl, rfl⟩) rfl rfl (by show [(e, (eB 2 5 _).ren _), (m, (cB s).ren _), (m + 1, (sB s).ren _)] = _; rw [eB_ren, cB_ren, sB_ren]; rfl)
  ·cases hs
 ·cases hs
def eStep : yq_ := fun args h m => match args with
 | [.ptr e []] => match engP h e with
  | some (s, v, x, P, (g, c, k, i), ok) => some (ok ∧ PG P ∧ VOk v ∧ SG P s, .int .i64 (xg_ P v s), [e, g, c, k, i], [(e, eB g i P.length), (g, mB (xp_ P v s) v (stepX P s x) c m), (c, cB (xp_ P v s)), (k, .gone), (i, prO P), (m, sB (xp_ P v s))])
  | none => none
 | _ => none
theorem eStep_ok : zj_ Tryz.prog 91 eStep := by
 refine ⟨zf_ (by kernel_rfl), fun args h m c v rd wr hs hm hc w0 M β h' w R hrd hwr hst => ?_⟩
 unfold eStep at hs
 split at hs
 ·rename_i e
  split at hs
  ·rename_i s v x P g c k i ok hep
   simp only [Option.some.injEq, Prod.mk.injEq] at hs
   obtain ⟨rfl, rfl, rfl, rfl⟩ := hs
   obtain ⟨ok1, ok2, rfl, hmp, hpp, he, hnd⟩ := engP_val hep
   obtain ⟨⟨hok, hok2⟩, hP, hV, hS⟩ := hc
   have ee := hrd e (by simp)
   have eg := hrd g (by simp)
   have ec := hrd c (by simp)
   have ek := hrd k (by simp)
   have ei := hrd i (by simp)
   exact bun_ok (h := h) (m := m) [0, e, g, c, k, i] (Step_lit P s v x hP hV hS) R rfl (by simp) rfl rfl hnd
    ⟨Fit.gone (by rw [R.nil0]; rfl), bun_engO he ee rfl rfl, bun_mac hmp hok eg rfl rfl, bun_cel hmp hok ec, bun_snd hmp hok ek, bun_prO hpp hok2 ei, trivial⟩ hm
    (fun p hp => by
     simp only [newB, List.drop, List.length_cons, List.length_nil, List.mem_cons, List.not_mem_nil, or_false] at hp
     subst hp
     exact hwr (m, sB (xp_ P v s)) (by simp)) (by simp) rfl
    ⟨trivial, eB_st rfl rfl, mB_st rfl rfl, cB_st, sB_st, prO_st, trivial⟩ ⟨rfl, trivial⟩
    ⟨trivial, eB_st rfl rfl, mB_st rfl rfl, cB_st, trivial, prO_st, sB_st, trivial⟩ (trivial) rfl rfl (by show [(e, (eB 2 5 _).ren _), (g, (mB _ v _ 3 6).ren _), (c, (cB _).ren _), (k, HB.gone.ren _), (i, (prO P).ren _), (m, (sB _).ren _)] = _; rw [eB_ren, mB_ren, cB_ren, sB_ren, prO_ren]; simp [xo_, HB.ren])
  ·cases hs
 ·cases hs
theorem rright_lit (f : Int) : zo_ Tryz.prog 52 [.int .i64 f] [.gone] (.int .i64 (rrE f)) [.gone] := by
 by_cases h1 : f < 0
 ·have e : rrE f = 2 := by unfold rrE; rw [if_pos (.inl h1)]
  rw [e]
  refine ze_ (fn := Tryz.f52) 1 9 0 rfl rfl rfl rfl rfl u19_ rfl fun w0 M E hro => ?_
  repeat' (first | refine Ctl.h ?_ | ((with_reducible intro hif); first | (focus (cases hif; done)) | ((try simp only [JH] at hif); try (exfalso; omega))) | ((with_reducible first | apply J22 zq_ za_ | apply J23 fol zq_ za_ | apply J24); (·rfl); (· (simp only [push_cast, ↓JP, Nat.reduceAdd, Nat.reduceEqDiff, Nat.reduceLT, Nat.reduceMul, Nat.reduceLeDiff, reduceCtorEq, reduceIte, ↓JK, inR, inN, h1]; rfl)); (try kernel_rfl); try exact k25_) | fail)
  apply At.endsRet za_ (fn := Tryz.f52) (rs := [.tmp 2]) Anc.refl hro (lb_ rfl) rfl
  ·exact yi_
  ·exact yl_
  ·exact k6_
  ·rfl
  ·exact k116_
  ·exact zs_
  ·exact fun β => rfl
  ·exact k116_
 ·by_cases h2 : 4096 < f
  ·have e : rrE f = 2 := by unfold rrE; rw [if_pos (.inr h2)]
   rw [e]
   refine ze_ (fn := Tryz.f52) 1 9 0 rfl rfl rfl rfl rfl u19_ rfl fun w0 M E hro => ?_
   repeat' (first | refine Ctl.h ?_ | ((with_reducible intro hif); first | (focus (cases hif; done)) | ((try simp only [JH] at hif); try (exfalso; omega))) | ((with_reducible first | apply J22 zq_ za_ | apply J23 fol zq_ za_ | apply J24); (·rfl); (· exact k123_); (try kernel_rfl); try exact k25_) | fail)
   apply At.endsRet za_ (fn := Tryz.f52) (rs := [.tmp 2]) Anc.refl hro (lb_ rfl) rfl
   ·exact yi_
   ·exact yl_
   ·exact k6_
   ·rfl
   ·exact k116_
   ·exact zs_
   ·exact fun β => rfl
   ·exact k116_
  ·have e : rrE f = 0 := by unfold rrE; rw [if_neg (by omega)]
   rw [e]
   refine ze_ (fn := Tryz.f52) 1 9 0 rfl rfl rfl rfl rfl u19_ rfl fun w0 M E hro => ?_
   repeat' (first | refine Ctl.h ?_ | ((with_reducible intro hif); first | (focus (cases hif; done)) | ((try simp only [JH] at hif); try (exfalso; omega))) | ((with_reducible first | apply J22 zq_ za_ | apply J23 fol zq_ za_ | apply J24); (·rfl); (· exact k123_); (try kernel_rfl); try exact k25_) | fail)
   apply At.endsRet za_ (fn := Tryz.f52) (rs := [.tmp 2]) Anc.refl hro (lb_ rfl) rfl
   ·exact yi_
   ·exact yl_
   ·exact k6_
   ·rfl
   ·exact k116_
   ·exact zs_
   ·exact fun β => rfl
   ·exact k116_
def sRRight : yq_ := fun args h m => match args with
 | [v1] => bif isI .i64 v1 then some (True, .int .i64 (rrE (iOf v1)), [], []) else none
 | _ => none
theorem sRRight_ok : zj_ Tryz.prog 52 sRRight := by
 refine ⟨zf_ (by kernel_rfl), fun args h m c v rd wr hs hm hc w0 M β h' w R hrd hwr hst => ?_⟩
 unfold sRRight at hs
 split at hs
 ·rename_i v1
  obtain ⟨hb, hs⟩ := zk_ hs
  simp only [Option.some.injEq, Prod.mk.injEq] at hs
  obtain ⟨rfl, rfl, rfl, rfl⟩ := hs
  have b1 := hb
  refine yf_ (views := []) (rright_lit (iOf v1)) ?_ R hm hwr ?_ ?_ ?_
  ·intro x hx; cases hx
  ·intro β1 hv
   simp only [denL, z7_, z6_, z5_, zr_, zb_, zc_ b1]
  ·exact k116_
  ·exact k116_
 ·cases hs
def pbB (e : Nat) : HB := .own 49 (.ptr e []) true
def fbB (f : Int) : HB := .own 3 (.int .i64 f) true
theorem steps_lit (f : Int) : zo_ Tryz.prog 49 [.ptr 1 [], .int .i64 f] [.gone, .gone] (.fn 88 [.ptr 2 [], .ptr 3 []]) [.gone, .gone, pbB 1, fbB f] := by
 refine ze_ (fn := Tryz.f49) 2 6 0 rfl rfl rfl rfl rfl u19_ rfl fun w0 M E hro => ?_
 repeat' (first | refine Ctl.h ?_ | ((with_reducible intro hif); first | (focus (cases hif; done)) | ((try simp only [JH] at hif); try (exfalso; omega))) | ((with_reducible first | apply J22 zq_ za_ | apply J23 fol zq_ za_ | apply J24); (·rfl); (· (simp only [push_cast, ↓JP, Nat.reduceAdd, Nat.reduceEqDiff, Nat.reduceLT, Nat.reduceMul, Nat.reduceLeDiff, reduceCtorEq, reduceIte, ↓JK, inR, inN]; rfl)); (try kernel_rfl); try exact k25_) | fail)
 apply At.endsPick [0, 1, 2, 3] za_ (fn := Tryz.f49) (rs := [.tmp 4]) Anc.refl hro (lb_ rfl) rfl
 ·exact yi_
 ·exact xf_
 ·rfl
 ·rfl
 ·rfl
 ·exact k29_
 ·rfl
 ·exact k116_
 ·exact zs_
 ·exact fun β => rfl
 ·exact k116_
def sSteps : yq_ := fun args h m => match args with
 | [.ptr e [], .int .i64 f] => bif (h e).born && yr_ [0, e] then some (True, .fn 88 [.ptr m [], .ptr (m + 1) []], [e], [(m, pbB e), (m + 1, fbB f)]) else none
 | _ => none
theorem sSteps_ok : zj_ Tryz.prog 49 sSteps := by
 refine ⟨zf_ (by kernel_rfl), fun args h m c v rd wr hs hm hc w0 M β h' w R hrd hwr hst => ?_⟩
 unfold sSteps at hs
 split at hs
 ·rename_i e f
  obtain ⟨hb, hs⟩ := zk_ hs
  simp only [Option.some.injEq, Prod.mk.injEq] at hs
  obtain ⟨rfl, rfl, rfl, rfl⟩ := hs
  simp only [Bool.and_eq_true] at hb
  obtain ⟨b1, hnd⟩ := hb
  have e1 : xo_ [0, e] m 2 = m := by simp [xo_]
  have e2 : xo_ [0, e] m 3 = m + 1 := by simp [xo_]
  exact bun_ok (h := h) (m := m) [0, e] (steps_lit f) R rfl (by simp) rfl rfl hnd
   ⟨Fit.gone (by rw [R.nil0]; rfl), Fit.gone (by rw [hrd e (by simp)]; exact b1), trivial⟩ hm
   (fun p hp => by
    simp only [newB, List.drop, List.length_cons, List.length_nil, List.mem_cons, List.not_mem_nil, or_false] at hp
    rcases hp with rfl | rfl
    ·exact hwr (m, pbB e) (by simp)
    ·exact hwr (m + 1, fbB f) (by simp)) (by simp) rfl
   ⟨trivial, trivial, trivial⟩ ⟨rfl, trivial, trivial⟩ ⟨trivial, trivial, by simp [pbB, HB.stable, Stable, hp, mrgL, HB.born], trivial, trivial⟩ (by simp [Stable, zd_, hp, mrgL, HB.born, pbB, fbB]) rfl
   (by simp only [SV.ren, renL, e1, e2]) (by
    show [(m, (pbB 1).ren _), (m + 1, (fbB f).ren _)] = _
    rfl)
 ·cases hs
theorem ls_zero {α : Type} (g : SV → α) (f : Nat → SV) : ls g 0 f = [] := rfl
theorem beg_fold (y t s d : Int) (cs : List Int) : Sta.mk 0 false (fun q => begR y t s q) cs d [] = ys_ y t s cs d := rfl
set_option linter.defProp false in
def JB := And.intro @ls_zero @beg_fold
def cRo : FuncId → Option yq_ := y3_ [(52, sRRight), (82, sBegin), (84, sOnG)]
theorem cRo_ok : ∀ f S, cRo f = some S → zj_ Tryz.prog f S := zp_ ⟨sRRight_ok, sBegin_ok, sOnG_ok, trivial⟩
theorem rop_good (P : List Ins) (v : Evi) (t s q o y d f : Int) (cs : List Int) (p1 p2 : Nat) (hP : ∀ x ∈ P, x.ok) (hn : P.length ≤ 1000000) (hc : cs.length ≤ 1000000) (hE : ropE P v (ys_ y t s cs d) f = 0) : zo_ Tryz.prog 48 [.sl 1 2 [] 5 0 P.length (some p1), .agg [.int .u64 v.seed, .int .i64 v.process, .int .i64 v.ports, .int .i64 v.look, .int .i64 v.now], .agg [.agg [.int .i64 t, .int .i64 s, .int .i64 q], .int .i64 o, .int .i64 y], .sl 3 4 [] 1 0 cs.length (some p2), .int .i64 d, .int .i64 f]
  [.gone, .gone, .ro (.arr P.length 5 (prS P)), .gone, .ro (.arr cs.length 1 (i64S cs))]
  (.tup [.ptr 5 [], .int .i64 0]) [.gone, .gone, .gone, .gone, .gone, eB 6 9 P.length, mB (ys_ y t s cs d) v Ins0 7 8, cB (ys_ y t s cs d), sB (ys_ y t s cs d), prO P] := by
 have hf := (ropE_zero hE).1
 have hO := (ropE_zero hE).2
 have hr : rrE f = 0 := by unfold rrE; rw [if_neg (by omega)]
 refine ze_ (fn := Tryz.f48) 5 29 0 rfl rfl rfl rfl rfl u19_ rfl fun w0 M E hro => ?_
 repeat' (first | refine Ctl.h ?_ | ((with_reducible intro hif); first | (focus (cases hif; done)) | ((try simp only [JH] at hif); try (exfalso; omega))) | ((with_reducible first | apply J22 cRo_ok za_ | apply J23 fol cRo_ok za_ | apply J24); (·rfl); (· (simp only [push_cast, ↓JP, Nat.reduceAdd, Nat.reduceEqDiff, Nat.reduceLT, Nat.reduceMul, Nat.reduceLeDiff, reduceCtorEq, reduceIte, ↓JK, cRo, sRRight, sBegin, sOnG, JE, JB, inR, inN, hr, hO]; rfl)); (try kernel_rfl); try exact k119_) | fail)
 apply At.endsPick [0, 1, 2, 3, 4, 8, 9, 10, 11, 12] za_ (fn := Tryz.f48) (rs := [.tmp 12, .tmp 13]) Anc.refl hro (lb_ rfl) rfl
 ·exact yi_
 ·exact xf_
 ·rfl
 ·rfl
 ·rfl
 ·exact k29_
 ·rfl
 ·exact k116_
 ·exact zs_
 ·exact fun β => rfl
 ·exact k116_
end Go.Proofs.YtjliakjbdcplcaaGreat.Vm
end
end

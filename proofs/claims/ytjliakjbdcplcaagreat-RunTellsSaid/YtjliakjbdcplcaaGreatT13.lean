import Derived.Test.YtjliakjbdcplcaaGreatT5
import Derived.Test.YtjliakjbdcplcaaGreatT6
import Derived.Test.YtjliakjbdcplcaaGreatT8
import Derived.Test.YtjliakjbdcplcaaGreatT12
set_option linter.unusedSimpArgs false
set_option linter.unusedVariables false
set_option maxRecDepth 100000
set_option maxHeartbeats 4000000
section
namespace Go.Proofs.YtjliakjbdcplcaaGreat.Vm
theorem u20_ {P : Prop} (h : P := by simp only [zd_, Stable, hp, i64S, prS, yo_, zn_, sndS, stS, evS, macS, mB, cB, sB, eB, prO, prR, pbB, fbB, HB.stable]; simp [HB.born]) : P := h
theorem k124_ {P : Prop} (h : P := by simp only [push_cast, ↓JP, Nat.reduceAdd, Nat.reduceEqDiff, Nat.reduceLT, Nat.reduceMul, Nat.reduceLeDiff, reduceCtorEq, reduceIte, ↓JK]; rfl) : P := h
theorem k125_ {P : Prop} (h : P := by (repeat' (first | exact trivial | exact .inl rfl | exact .inr (.same _) | exact .inr .loose | exact .inr (.arr (by assumption)) | apply And.intro | (exact .inr (hl0 true))))) : P := h
theorem k126_ {P : Prop} (h : P := by (repeat' (first | exact trivial | exact rfl | assumption | exact hst _ _ | exact hst1 _ _ | exact hst2 _ _ | apply Stable.ite | apply And.intro | intro _ | (simp only [Stable, zd_, i64S, prS, yo_, zn_, sndS, stS, evS, macS, mB, cB, sB, eB, prO, prR, pbB, fbB, HB.stable]; done)))) : P := h
theorem k127_ {P : Prop} (h : P := by simp only [push_cast, ↓JP, Nat.reduceAdd, Nat.reduceEqDiff, Nat.reduceLT, Nat.reduceMul, Nat.reduceLeDiff, reduceCtorEq, reduceIte, ↓JK, noDefer, List.drop_zero, List.drop_succ_cons, cRun, JM, engP, prP, macP, yr_, memN, eB, prO, pbB, fbB, JE, eEnded, eAt, eStep, xm_, inR, inN, hst]; rfl) : P := h
theorem yw_ {P : Prop} (h : P := by (focus (first | exact True.intro | ((try simp only [JS, implies_true, forall_const, z9_, z2_, kndOf, inR, inN]); (repeat' (first | assumption | exact True.intro | omega | apply And.intro)); done)))) : P := h
theorem k129_ {P : Prop} (h : P := by first | rfl | (simp only [push_cast, ↓JP, Nat.reduceAdd, Nat.reduceEqDiff, Nat.reduceLT, Nat.reduceMul, Nat.reduceLeDiff, reduceCtorEq, reduceIte, ↓JK, noDefer, List.drop_zero, List.drop_succ_cons, cRun, JM, engP, prP, macP, yr_, memN, eB, prO, pbB, fbB, JE, eEnded, eAt, eStep, xm_, inR, inN, hst]; done)) : P := h
theorem k130_ {P : Prop} (h : P := by exact ⟨⟨hkf, stepS_good hg hP, by simp [hl], by rw [← hr1, runA_go rfl (by omega) hst]; rfl⟩, by show f.toNat - (k + 1) < f.toNat - k; omega⟩) : P := h
theorem k131_ {P : Prop} (h : P := by (repeat' (first | exact trivial | exact rfl | assumption | apply Stable.ite | apply And.intro | intro _ | (simp only [Stable, zd_, i64S, prS, yo_, zn_, sndS, stS, evS, macS, mB, cB, sB, eB, prO, prR, pbB, fbB, HB.stable]; done)))) : P := h
theorem k132_ {P : Prop} (h : P := by simp only [push_cast, ↓JP, Nat.reduceAdd, Nat.reduceEqDiff, Nat.reduceLT, Nat.reduceMul, Nat.reduceLeDiff, reduceCtorEq, reduceIte, ↓JK, noDefer, List.drop_zero, List.drop_succ_cons, cRun, JM, engP, prP, macP, yr_, memN, eB, prO, pbB, fbB, JE, eEnded, eAt, eStep, xm_, inR, inN]; rfl) : P := h
theorem k133_ {P : Prop} (h : P := by first | rfl | (simp only [push_cast, ↓JP, Nat.reduceAdd, Nat.reduceEqDiff, Nat.reduceLT, Nat.reduceMul, Nat.reduceLeDiff, reduceCtorEq, reduceIte, ↓JK, noDefer, List.drop_zero, List.drop_succ_cons, cRun, JM, engP, prP, macP, yr_, memN, eB, prO, pbB, fbB, JE, eEnded, eAt, eStep, xm_, inR, inN]; done)) : P := h
theorem k134_ {P : Prop} (h : P := by (repeat' (first | exact trivial | exact rfl | assumption | apply Stable.ite | exact nilOr_st rfl rfl | apply And.intro | intro _ | (simp only [Stable, zd_, i64S, prS, yo_, zn_, sndS, stS, evS, macS, mB, cB, sB, eB, prO, prR, pbB, fbB, HB.stable]; done)))) : P := h
theorem k135_ {P : Prop} (h : P := by exact ⟨⟨hkf, stepS_good hg hP, hl2, by rw [← hr1, runA_go rfl (by omega) hst]; rfl⟩, by show f.toNat - (k + 1) < f.toNat - k; omega⟩) : P := h
theorem k136_ {P : Prop} (h : P := by (repeat' (first | exact trivial | exact .inl rfl | exact .inr (.same _) | exact .inr .loose | exact .inr (.arr (by assumption)) | apply And.intro | (exact .inr (hA1 _ (fun q _ => rfl) _)) | (exact .inr (hA0 _ (fun q _ => rfl) _)) | (refine .inr (less_nil ?_ ?_ ?_) <;> first | rfl | simp)))) : P := h
theorem k137_ {P : Prop} (h : P := by (first | exact True.intro | ((try simp only [JS, implies_true, forall_const, z9_, z2_, kndOf, inR, inN]); (first | first | omega | exact ⟨hok, hn', hc⟩ | (repeat' (first | assumption | exact True.intro | omega | apply And.intro))); done))) : P := h
theorem k138_ {P : Prop} (h : P := by (simp only [push_cast, ↓JP, Nat.reduceAdd, Nat.reduceEqDiff, Nat.reduceLT, Nat.reduceMul, Nat.reduceLeDiff, reduceCtorEq, reduceIte, ↓JK, cRun, sRoG, sSteps, JE, hs0, inR, inN, hE]; rfl)) : P := h
theorem k139_ {P : Prop} (h : P := by (simp only [push_cast, ↓JP, Nat.reduceAdd, Nat.reduceEqDiff, Nat.reduceLT, Nat.reduceMul, Nat.reduceLeDiff, reduceCtorEq, reduceIte, ↓JK, JM, engP, prP, macP, yr_, memN, eB, prO, pbB, fbB, JE, inR, inN]; rfl)) : P := h
theorem k140_ {P : Prop} (h : P := by (simp only [push_cast, ↓JP, Nat.reduceAdd, Nat.reduceEqDiff, Nat.reduceLT, Nat.reduceMul, Nat.reduceLeDiff, reduceCtorEq, reduceIte, ↓JK, cRun, JM, engP, prP, macP, yr_, memN, eB, prO, pbB, fbB, JE, eEnded, eAt, eStep, xm_, inR, inN, hst, hkf2]; rfl)) : P := h
theorem k141_ {P : Prop} (h : P := by (simp only [push_cast, ↓JP, Nat.reduceAdd, Nat.reduceEqDiff, Nat.reduceLT, Nat.reduceMul, Nat.reduceLeDiff, reduceCtorEq, reduceIte, ↓JK, cRun, JM, engP, prP, macP, yr_, memN, eB, prO, pbB, fbB, JE, eEnded, eAt, eStep, xm_, inR, inN, hst]; rfl)) : P := h
theorem k142_ {P : Prop} (h : P := by (simp only [push_cast, ↓JP, Nat.reduceAdd, Nat.reduceEqDiff, Nat.reduceLT, Nat.reduceMul, Nat.reduceLeDiff, reduceCtorEq, reduceIte, ↓JK, cRun, JM, engP, prP, macP, yr_, memN, eB, prO, pbB, fbB, JE, eEnded, eAt, eStep, xm_, inR, inN, hl]; rfl)) : P := h
theorem k143_ {P : Prop} (h : P := by (simp only [push_cast, ↓JP, Nat.reduceAdd, Nat.reduceEqDiff, Nat.reduceLT, Nat.reduceMul, Nat.reduceLeDiff, reduceCtorEq, reduceIte, ↓JK, cRun, JM, engP, prP, macP, yr_, memN, eB, prO, pbB, fbB, JE, eEnded, eAt, eStep, xm_, inR, inN]; rfl)) : P := h
theorem k144_ {P : Prop} (h : P := by (first | exact True.intro | ((try simp only [JS, implies_true, forall_const, z9_, z2_, kndOf, inR, inN]); (first | first | omega | exact ⟨hok, hn, hc⟩ | (repeat' (first | assumption | exact True.intro | omega | apply And.intro))); done))) : P := h
theorem k145_ {P : Prop} (h : P := by (simp only [push_cast, ↓JP, Nat.reduceAdd, Nat.reduceEqDiff, Nat.reduceLT, Nat.reduceMul, Nat.reduceLeDiff, reduceCtorEq, reduceIte, ↓JK, cRej, sRoB, JE, hs0, inR, inN, hE]; rfl)) : P := h
theorem k146_ {P : Prop} (h : P := by (simp only [push_cast, ↓JP, Nat.reduceAdd, Nat.reduceEqDiff, Nat.reduceLT, Nat.reduceMul, Nat.reduceLeDiff, reduceCtorEq, reduceIte, ↓JK, cRun, JM, engP, prP, macP, yr_, memN, eB, prO, pbB, fbB, eEnded, eAt, eStep, xm_, hst, hkf2]; rfl)) : P := h
theorem k147_ {P : Prop} (h : P := by (simp only [push_cast, ↓JP, Nat.reduceAdd, Nat.reduceEqDiff, Nat.reduceLT, Nat.reduceMul, Nat.reduceLeDiff, reduceCtorEq, reduceIte, ↓JK, cRun, JM, engP, prP, macP, yr_, memN, eB, prO, pbB, fbB, eEnded, eAt, eStep, xm_, hst]; rfl)) : P := h
theorem k148_ {P : Prop} (h : P := by (simp only [push_cast, ↓JP, Nat.reduceAdd, Nat.reduceEqDiff, Nat.reduceLT, Nat.reduceMul, Nat.reduceLeDiff, reduceCtorEq, reduceIte, ↓JK, cRun, JM, engP, prP, macP, yr_, memN, eB, prO, pbB, fbB, eEnded, eAt, eStep, xm_, hst, hn190, Nat.sub_zero]; rfl)) : P := h
theorem k149_ {P : Prop} (h : P := by (simp only [push_cast, ↓JP, Nat.reduceAdd, Nat.reduceEqDiff, Nat.reduceLT, Nat.reduceMul, Nat.reduceLeDiff, reduceCtorEq, reduceIte, ↓JK, cRun, JM, engP, prP, macP, yr_, memN, eB, prO, pbB, fbB, eEnded, eAt, eStep, xm_, hkf2]; rfl)) : P := h
theorem k150_ {P : Prop} (h : P := by (simp only [push_cast, ↓JP, Nat.reduceAdd, Nat.reduceEqDiff, Nat.reduceLT, Nat.reduceMul, Nat.reduceLeDiff, reduceCtorEq, reduceIte, ↓JK, cRun, JM, engP, prP, macP, yr_, memN, eB, prO, pbB, fbB, eEnded, eAt, eStep, xm_]; rfl)) : P := h
end Go.Proofs.YtjliakjbdcplcaaGreat.Vm
end
section
open Go.Proofs.YtjliakjbdcplcaaGreat.Vm Go.RowKit
attribute [local push_cast] prS zn_ i64S nav_ins xz_ xy_ xx_ xw_ xv_ nav_snd xu_ xt_ xs_ z4_ yh_ yn_ yg_ zw_ zy_ iOf
section
namespace Go.Proofs.YtjliakjbdcplcaaGreat.Vm
open Go.RowKit
def cRb : FuncId → Option yq_ := y3_ [(52, sRRight), (82, sBegin), (84, sOnB)]
theorem cRb_ok : ∀ f S, cRb f = some S → zj_ Tryz.prog f S := zp_ ⟨sRRight_ok, sBegin_ok, sOnB_ok, trivial⟩
theorem rop_bad (P : List Ins) (v : Evi) (t s q o y d f : Int) (cs : List Int) (p1 p2 : Nat) (hP : ∀ x ∈ P, x.ok) (hn : P.length ≤ 1000000) (hc : cs.length ≤ 1000000) (hE : ropE P v (ys_ y t s cs d) f ≠ 0) : zo_ Tryz.prog 48 [.sl 1 2 [] 5 0 P.length (some p1), .agg [.int .u64 v.seed, .int .i64 v.process, .int .i64 v.ports, .int .i64 v.look, .int .i64 v.now], .agg [.agg [.int .i64 t, .int .i64 s, .int .i64 q], .int .i64 o, .int .i64 y], .sl 3 4 [] 1 0 cs.length (some p2), .int .i64 d, .int .i64 f]
  [.gone, .gone, .ro (.arr P.length 5 (prS P)), .gone, .ro (.arr cs.length 1 (i64S cs))]
  (.tup [.nilp, .int .i64 (ropE P v (ys_ y t s cs d) f)]) [.gone] := by
 by_cases hr : rrE f = 0
 ·have e : ropE P v (ys_ y t s cs d) f = yt_ P v (ys_ y t s cs d) := by unfold ropE; rw [if_pos hr]
  rw [e] at hE ⊢
  refine ze_ (fn := Tryz.f48) 5 29 0 rfl rfl rfl rfl rfl u19_ rfl fun w0 M E hro => ?_
  repeat' (first | refine Ctl.h ?_ | ((with_reducible intro hif); first | (focus (cases hif; done)) | ((try simp only [JH] at hif); try (exfalso; omega))) | ((with_reducible first | apply J22 cRb_ok za_ | apply J23 fol cRb_ok za_ | apply J24); (·rfl); (· (simp only [push_cast, ↓JP, Nat.reduceAdd, Nat.reduceEqDiff, Nat.reduceLT, Nat.reduceMul, Nat.reduceLeDiff, reduceCtorEq, reduceIte, ↓JK, cRb, sRRight, sBegin, sOnB, JE, JB, inR, inN, hr, hE]; rfl)); (try kernel_rfl); try exact k119_) | fail)
  apply At.endsRet za_ (fn := Tryz.f48) (rs := [.tmp 12, .tmp 13]) Anc.refl hro (lb_ rfl) rfl
  ·exact yi_
  ·exact yl_
  ·exact k6_
  ·rfl
  ·exact k116_
  ·exact zs_
  ·exact fun β => rfl
  ·exact k116_
 ·have e : ropE P v (ys_ y t s cs d) f = rrE f := by unfold ropE; rw [if_neg hr]
  rw [e]
  refine ze_ (fn := Tryz.f48) 5 29 0 rfl rfl rfl rfl rfl u19_ rfl fun w0 M E hro => ?_
  repeat' (first | refine Ctl.h ?_ | ((with_reducible intro hif); first | (focus (cases hif; done)) | ((try simp only [JH] at hif); try (exfalso; omega))) | ((with_reducible first | apply J22 cRb_ok za_ | apply J23 fol cRb_ok za_ | apply J24); (·rfl); (· (simp only [push_cast, ↓JP, Nat.reduceAdd, Nat.reduceEqDiff, Nat.reduceLT, Nat.reduceMul, Nat.reduceLeDiff, reduceCtorEq, reduceIte, ↓JK, cRb, sRRight, sBegin, sOnB, JE, JB, inR, inN, hr]; rfl)); (try kernel_rfl); try exact k119_) | fail)
  apply At.endsRet za_ (fn := Tryz.f48) (rs := [.tmp 12, .tmp 13]) Anc.refl hro (lb_ rfl) rfl
  ·exact yi_
  ·exact yl_
  ·exact k6_
  ·rfl
  ·exact k116_
  ·exact zs_
  ·exact fun β => rfl
  ·exact k116_
def sRoG : yq_ := fun args h m => match args with
 | [v1, .agg [v2, v3, v4, v5, v6], .agg [.agg [v7, v8, v9], v10, v11], v12, v13, v14] => match xa_ h 5 (.tup []) v1, xa_ h 1 (.tup []) v12 with
  | some (c1, n1, f1, r1), some (c12, n12, f12, r12) => bif isI .u64 v2 && isI .i64 v3 && isI .i64 v4 && isI .i64 v5 && isI .i64 v6 && isI .i64 v7 && isI .i64 v8 && isI .i64 v9 && isI .i64 v10 && isI .i64 v11 && isI .i64 v13 && isI .i64 v14 then some (c1 ∧ c12 ∧ (∀ q, q < n1 → isIns (f1 q) = true) ∧ (∀ q, q < n12 → isI .i64 (f12 q) = true) ∧ ((∀ x ∈ (ls zl_ n1 f1), x.ok)) ∧ (n1 ≤ 1000000) ∧ (n12 ≤ 1000000) ∧ (ropE (ls zl_ n1 f1) ⟨(iOf v2), (iOf v3), (iOf v4), (iOf v5), (iOf v6)⟩ (ys_ (iOf v11) (iOf v7) (iOf v8) (ls iOf n12 f12) (iOf v13)) (iOf v14) = 0), .tup [.ptr m [], .int .i64 0], r1 ++ r12, [(m, eB (m + 1) (m + 4) (ls zl_ n1 f1).length), (m + 1, mB (ys_ (iOf v11) (iOf v7) (iOf v8) (ls iOf n12 f12) (iOf v13)) ⟨(iOf v2), (iOf v3), (iOf v4), (iOf v5), (iOf v6)⟩ Ins0 (m + 2) (m + 3)), (m + 2, cB (ys_ (iOf v11) (iOf v7) (iOf v8) (ls iOf n12 f12) (iOf v13))), (m + 3, sB (ys_ (iOf v11) (iOf v7) (iOf v8) (ls iOf n12 f12) (iOf v13))), (m + 4, prO (ls zl_ n1 f1))]) else none
  | _, _ => none
 | _ => none
theorem sRoG_ok : zj_ Tryz.prog 48 sRoG := by
 refine ⟨zf_ (by kernel_rfl), fun args h m c v rd wr hs hm hc w0 M β h' w R hrd hwr hst => ?_⟩
 unfold sRoG at hs
 split at hs
 ·rename_i v1 v2 v3 v4 v5 v6 v7 v8 v9 v10 v11 v12 v13 v14
  split at hs
  ·rename_i c1 n1 f1 r1 c12 n12 f12 r12 a1 a12
   obtain ⟨hb, hs⟩ := zk_ hs
   simp only [Option.some.injEq, Prod.mk.injEq] at hs
   obtain ⟨rfl, rfl, rfl, rfl⟩ := hs
   simp only [Bool.and_eq_true] at hb
   obtain ⟨⟨⟨⟨⟨⟨⟨⟨⟨⟨⟨b2, b3⟩, b4⟩, b5⟩, b6⟩, b7⟩, b8⟩, b9⟩, b10⟩, b11⟩, b13⟩, b14⟩ := hb
   obtain ⟨k1, k12, g1, g12, y1, y2, y3, y4⟩ := hc
   obtain ⟨A1, p1, d1, e1, t1⟩ := zg_ R a1 k1 (fun i hi => hrd i (List.mem_append_left _ hi)) (by omega)
   obtain ⟨A12, p12, d12, e12, t12⟩ := zg_ R a12 k12 (fun i hi => hrd i (List.mem_append_right _ hi)) (by omega)
   refine yf_ (views := [⟨5, (ls zl_ n1 f1).length, prS (ls zl_ n1 f1), A1, p1⟩, ⟨1, (ls iOf n12 f12).length, i64S (ls iOf n12 f12), A12, p12⟩]) (rop_good (ls zl_ n1 f1) ⟨(iOf v2), (iOf v3), (iOf v4), (iOf v5), (iOf v6)⟩ (iOf v7) (iOf v8) (iOf v9) (iOf v10) (iOf v11) (iOf v13) (iOf v14) (ls iOf n12 f12) p1 p12 y1 (by rw [zb_]; exact y2) (by rw [zb_]; exact y3) y4) ?_ R hm hwr ?_ ?_ ?_
   ·intro x hx
    simp only [List.mem_cons, List.not_mem_nil, or_false] at hx
    rcases hx with rfl | rfl
    ·exact xn_ t1 e1 g1
    ·exact z0_ t12 e12 g12
   ·intro β1 hv
    simp only [Vd, zb_, and_true] at hv
    obtain ⟨z1, z12⟩ := hv
    simp only [denL, z7_, z6_, z5_, zr_, zb_, z1, z12, d1, d12, zc_ b2, zc_ b3, zc_ b4, zc_ b5, zc_ b6, zc_ b7, zc_ b8, zc_ b9, zc_ b10, zc_ b11, zc_ b13, zc_ b14]
   ·exact k116_
   ·exact k116_
  ·cases hs
 ·cases hs
def sRoB : yq_ := fun args h m => match args with
 | [v1, .agg [v2, v3, v4, v5, v6], .agg [.agg [v7, v8, v9], v10, v11], v12, v13, v14] => match xa_ h 5 (.tup []) v1, xa_ h 1 (.tup []) v12 with
  | some (c1, n1, f1, r1), some (c12, n12, f12, r12) => bif isI .u64 v2 && isI .i64 v3 && isI .i64 v4 && isI .i64 v5 && isI .i64 v6 && isI .i64 v7 && isI .i64 v8 && isI .i64 v9 && isI .i64 v10 && isI .i64 v11 && isI .i64 v13 && isI .i64 v14 then some (c1 ∧ c12 ∧ (∀ q, q < n1 → isIns (f1 q) = true) ∧ (∀ q, q < n12 → isI .i64 (f12 q) = true) ∧ ((∀ x ∈ (ls zl_ n1 f1), x.ok)) ∧ (n1 ≤ 1000000) ∧ (n12 ≤ 1000000) ∧ (ropE (ls zl_ n1 f1) ⟨(iOf v2), (iOf v3), (iOf v4), (iOf v5), (iOf v6)⟩ (ys_ (iOf v11) (iOf v7) (iOf v8) (ls iOf n12 f12) (iOf v13)) (iOf v14) ≠ 0), .tup [.nilp, .int .i64 (ropE (ls zl_ n1 f1) ⟨(iOf v2), (iOf v3), (iOf v4), (iOf v5), (iOf v6)⟩ (ys_ (iOf v11) (iOf v7) (iOf v8) (ls iOf n12 f12) (iOf v13)) (iOf v14))], r1 ++ r12, []) else none
  | _, _ => none
 | _ => none
theorem sRoB_ok : zj_ Tryz.prog 48 sRoB := by
 refine ⟨zf_ (by kernel_rfl), fun args h m c v rd wr hs hm hc w0 M β h' w R hrd hwr hst => ?_⟩
 unfold sRoB at hs
 split at hs
 ·rename_i v1 v2 v3 v4 v5 v6 v7 v8 v9 v10 v11 v12 v13 v14
  split at hs
  ·rename_i c1 n1 f1 r1 c12 n12 f12 r12 a1 a12
   obtain ⟨hb, hs⟩ := zk_ hs
   simp only [Option.some.injEq, Prod.mk.injEq] at hs
   obtain ⟨rfl, rfl, rfl, rfl⟩ := hs
   simp only [Bool.and_eq_true] at hb
   obtain ⟨⟨⟨⟨⟨⟨⟨⟨⟨⟨⟨b2, b3⟩, b4⟩, b5⟩, b6⟩, b7⟩, b8⟩, b9⟩, b10⟩, b11⟩, b13⟩, b14⟩ := hb
   obtain ⟨k1, k12, g1, g12, y1, y2, y3, y4⟩ := hc
   obtain ⟨A1, p1, d1, e1, t1⟩ := zg_ R a1 k1 (fun i hi => hrd i (List.mem_append_left _ hi)) (by omega)
   obtain ⟨A12, p12, d12, e12, t12⟩ := zg_ R a12 k12 (fun i hi => hrd i (List.mem_append_right _ hi)) (by omega)
   refine yf_ (views := [⟨5, (ls zl_ n1 f1).length, prS (ls zl_ n1 f1), A1, p1⟩, ⟨1, (ls iOf n12 f12).length, i64S (ls iOf n12 f12), A12, p12⟩]) (rop_bad (ls zl_ n1 f1) ⟨(iOf v2), (iOf v3), (iOf v4), (iOf v5), (iOf v6)⟩ (iOf v7) (iOf v8) (iOf v9) (iOf v10) (iOf v11) (iOf v13) (iOf v14) (ls iOf n12 f12) p1 p12 y1 (by rw [zb_]; exact y2) (by rw [zb_]; exact y3) y4) ?_ R hm hwr ?_ ?_ ?_
   ·intro x hx
    simp only [List.mem_cons, List.not_mem_nil, or_false] at hx
    rcases hx with rfl | rfl
    ·exact xn_ t1 e1 g1
    ·exact z0_ t12 e12 g12
   ·intro β1 hv
    simp only [Vd, zb_, and_true] at hv
    obtain ⟨z1, z12⟩ := hv
    simp only [denL, z7_, z6_, z5_, zr_, zb_, z1, z12, d1, d12, zc_ b2, zc_ b3, zc_ b4, zc_ b5, zc_ b6, zc_ b7, zc_ b8, zc_ b9, zc_ b10, zc_ b11, zc_ b13, zc_ b14]
   ·exact k116_
   ·exact k116_
  ·cases hs
 ·cases hs
def cRun : FuncId → Option yq_ := y3_ [(48, sRoG), (49, sSteps), (89, eEnded), (90, eAt), (91, eStep), (50, xm_)]
theorem zh_ : ∀ f S, cRun f = some S → zj_ Tryz.prog f S := zp_ ⟨sRoG_ok, sSteps_ok, eEnded_ok, eAt_ok, eStep_ok, eState_ok, trivial⟩
structure RS where
 k : Nat
 s : Sta
 x : Ins
 tr : List Int
 a : Int
structure RInv (P : List Ins) (v : Evi) (f : Int) (r : RR) (y : RS) : Prop where
 k : y.k ≤ f.toNat
 g : SG P y.s
 l : y.tr.length = y.k
 r : xj_ P v (f.toNat - y.k) y.s y.x y.tr y.a = r
theorem less_res {t : Nat} {ex : Bool} {w : SV} {u d : SV} : Less (.own t (.agg [.nat .i64 0, .nat .i64 0, w, u, d]) ex) (.own t (.agg [.nat .i64 0, .int .i64 0, w, u, d]) ex) :=
 .val (fun β => rfl) (fun n k f e => by cases e) (fun n k f e => by cases e)
theorem Run_good (P : List Ins) (v : Evi) (t s q o y d f : Int) (cs : List Int) (p1 p2 : Nat) (hP : PG P) (V : VOk v) (hc : cs.length ≤ 1000000) (hE : ropE P v (ys_ y t s cs d) f = 0) (r : RR) (hr : xj_ P v f.toNat (ys_ y t s cs d) Ins0 [] 0 = r) (hb : r.bad = 0) : zo_ Tryz.prog 13 [.sl 1 2 [] 5 0 P.length (some p1), .agg [.int .u64 v.seed, .int .i64 v.process, .int .i64 v.ports, .int .i64 v.look, .int .i64 v.now], .agg [.agg [.int .i64 t, .int .i64 s, .int .i64 q], .int .i64 o, .int .i64 y], .sl 3 4 [] 1 0 cs.length (some p2), .int .i64 d, .int .i64 f]
  [.gone, .gone, .ro (.arr P.length 5 (prS P)), .gone, .ro (.arr cs.length 1 (i64S cs))]
  (.tup [.agg [.nat .i64 r.tr.length, .int .i64 r.at_, .sl 5 5 [] 1 0 r.s.cells.length none, .int .i64 r.s.draws, .sl 6 6 [] 3 0 r.s.sends.length none], .int .i64 0]) [.gone, .gone, .gone, .gone, .gone, cB r.s, sB r.s] := by
 have hok := hP.ok
 have hn := hP.len
 have hn' : P.length ≤ 1000000 := by omega
 have hf := (ropE_zero hE).1
 have hO := openE_zero (ropE_zero hE).2
 have hG : SG P (ys_ y t s cs d) := SG.of hO.2.2 (by simp [ys_])
 obtain ⟨s0, hs0⟩ : ∃ s0, ys_ y t s cs d = s0 := ⟨_, rfl⟩
 rw [hs0] at hE hr hG
 have hl0 : ∀ ex, Less (.own 42 (.agg [.nat .i64 0, .nat .i64 0, .sl 0 0 [] 0 0 0 (some 0), .nat .i64 0, .sl 0 0 [] 0 0 0 (some 0)]) ex) (.own 42 (.agg [.nat .i64 0, .int .i64 0, .sl 0 0 [] 0 0 0 (some 0), .nat .i64 0, .sl 0 0 [] 0 0 0 (some 0)]) ex) := fun ex => less_res
 have hl1 := hl0 true
 refine ze_ (fn := Tryz.f13) 5 66 0 rfl rfl rfl rfl rfl u20_ rfl fun w0 M E hro => ?_
 repeat' (first | refine Ctl.h ?_ | ((with_reducible intro hif); first | (focus (cases hif; done)) | ((try simp only [JH] at hif); try (exfalso; omega))) | ((with_reducible first | apply J22 zh_ za_ | apply J23 fol zh_ za_ | apply J24); (·rfl); (· exact k138_); (try kernel_rfl); try exact k137_) | fail)
 with_reducible apply WF.range (fn' := Tryz.f88) 28
 ·exact k124_
 ·exact xf_
 ·rfl
 ·rfl
 ·rfl
 ·rfl
 ·rfl
 ·rfl
 ·rfl
 intro E1 rec tmps after hE1 hrec hcf haft
 repeat' (first | refine Ctl.h ?_ | ((with_reducible intro hif); first | (focus (cases hif; done)) | ((try simp only [JH] at hif); try (exfalso; omega))) | ((with_reducible first | apply J22 zh_ za_ | apply J23 fol zh_ za_ | apply J24); (·rfl); (· exact k139_); (try kernel_rfl); try exact k25_) | fail)
 refine At.pick (L2 := [.gone, .gone, .ro (.arr P.length 5 (prS P)), .gone, .ro (.arr cs.length 1 (i64S cs)), .gone, .gone, .own 42 (.agg [.nat .i64 0, .nat .i64 0, .sl 0 0 [] 0 0 0 (some 0), .nat .i64 0, .sl 0 0 [] 0 0 0 (some 0)]) true, eB 9 12 P.length, mB s0 v Ins0 10 19, cB s0, .gone, prO P, .own 43 (.int .i64 0) true, .own 42 (.agg [.nat .i64 0, .int .i64 0, .sl 0 0 [] 0 0 0 (some 0), .nat .i64 0, .sl 0 0 [] 0 0 0 (some 0)]) true, pbB 8, fbB f, .raw (.deferred (some [])), .raw (.loop (rec .ready none)), sB s0]) (φ2 := [(0, .yl 18), (1, .ptr 15 []), (2, .ptr 16 []), (4, .nat .i64 0)]) [0, 1, 2, 3, 4, 5, 6, 7, 8, 9, 10, 11, 12, 13, 14, 15, 16, 17, 18, 11] rfl rfl rfl ?_ rfl ?_ ?_ ?_ rfl ?_
 ·exact k125_
 ·exact k126_
 ·exact k16_
 ·exact k126_
 refine WF.loopAt (fun (z : RS) => RInv P v f r z) (fun (z : RS) => [(0, .yl 18), (1, .ptr 15 []), (2, .ptr 16 []), (4, .nat .i64 z.k)]) (fun (z : RS) => [.gone, .gone, .ro (.arr P.length 5 (prS P)), .gone, .ro (.arr cs.length 1 (i64S cs)), .gone, .gone, .own 42 (.agg [.nat .i64 0, .nat .i64 0, .sl 0 0 [] 0 0 0 (some 0), .nat .i64 0, .sl 0 0 [] 0 0 0 (some 0)]) true, eB 9 12 P.length, mB z.s v z.x 10 19, cB z.s, .gone, prO P, .own 43 (.int .i64 0) true, .own 42 (.agg [.nat .i64 z.k, .int .i64 z.a, .sl 0 0 [] 0 0 0 (some 0), .nat .i64 0, .sl 0 0 [] 0 0 0 (some 0)]) true, pbB 8, fbB f, .raw (.deferred (some [])), .raw (.loop (rec .ready none)), sB z.s]) (fun (z : RS) => f.toNat - z.k) ⟨0, s0, Ins0, [], 0⟩ ⟨Nat.zero_le _, hG, rfl, hr⟩ ?_ ?_ rfl ?_ ?_ rfl ?_
 ·exact k5_
 ·exact k6_
 ·exact k126_
 ·exact k126_
 rintro ⟨k, ⟨at1, en, rg, ce, dr, se⟩, x, tr, a⟩ ⟨hk, hg, hl, hr1⟩
 dsimp only at hk hg hl hr1 ⊢
 cases en
 ·have hkf : k < f.toNat := by
   rcases Nat.lt_or_ge k f.toNat with h | h
   ·exact h
   ·exfalso
    have e0 : f.toNat - k = 0 := by omega
    rw [e0, xr_ rfl] at hr1
    rw [← hr1] at hb
    cases hb
  have hst : xg_ P v ⟨at1, false, rg, ce, dr, se⟩ = 0 := by
   by_cases h : xg_ P v ⟨at1, false, rg, ce, dr, se⟩ = 0
   ·exact h
   ·rw [runA_bad rfl (by omega) h] at hr1
    rw [← hr1] at hb
    exact absurd hb h
  have hkf2 : (k : Int) < f := by omega
  repeat' (first | refine Ctl.h ?_ | ((with_reducible intro hif); first | (focus (cases hif; done)) | ((try simp only [JH] at hif); try (exfalso; omega))) | ((with_reducible first | apply J22 zh_ za_ | apply J23 fol zh_ za_ | apply J24); (·rfl); (· exact k140_); (try kernel_rfl); try exact k25_) | fail)
  with_reducible apply WF.split 3 5
  ·rfl
  with_reducible apply At.run zh_ za_
  ·rfl
  ·rfl
  ·rfl
  ·exact k127_
  ·exact yw_
  with_reducible apply At.yield (gr := _)
  ·rfl
  ·rfl
  ·rfl
  ·rfl
  ·rfl
  ·rfl
  ·exact k127_
  ·exact k129_
  ·exact k127_
  ·exact yw_
  ·exact k127_
  ·exact yw_
  ·exact k129_
  ·exact hrec
  ·exact hcf
  ·rfl
  ·rfl
  ·rfl
  intro lb E2 next hE2 hnext
  repeat' (first | refine Ctl.h ?_ | ((with_reducible intro hif); first | (focus (cases hif; done)) | ((try simp only [JH] at hif); try (exfalso; omega))) | ((with_reducible first | apply J22 zh_ za_ | apply J23 fol zh_ za_ | apply J24); (·rfl); (· exact k141_); (try kernel_rfl); try exact k25_) | fail)
  with_reducible apply At.begins hrec
  ·rfl
  with_reducible refine At.code ?_
  repeat' (first | refine Ctl.h ?_ | ((with_reducible intro hif); first | (focus (cases hif; done)) | ((try simp only [JH] at hif); try (exfalso; omega))) | ((with_reducible first | apply J22 zh_ za_ | apply J23 fol zh_ za_ | apply J24); (·rfl); (· exact k141_); (try kernel_rfl); try exact k25_) | fail)
  with_reducible apply At.roundNormal
  ·exact k129_
  apply hnext
  with_reducible apply At.runEnd zh_ za_
  ·rfl
  ·rfl
  ·rfl
  ·exact k127_
  ·exact yw_
  repeat' (first | refine Ctl.h ?_ | ((with_reducible intro hif); first | (focus (cases hif; done)) | ((try simp only [JH] at hif); try (exfalso; omega))) | ((with_reducible first | apply J22 zh_ za_ | apply J23 fol zh_ za_ | apply J24); (·rfl); (· exact k141_); (try kernel_rfl); try exact k25_) | fail)
  refine At.nextPick [0, 1, 2, 3, 4, 5, 6, 7, 8, 9, 10, 11, 12, 13, 14, 15, 16, 17, 18, 20] ⟨k + 1, xp_ P v ⟨at1, false, rg, ce, dr, se⟩, stepX P ⟨at1, false, rg, ce, dr, se⟩ x, tr ++ [at1], at1⟩ ?_ rfl rfl rfl ?_ rfl ?_ ?_ ?_ rfl
  ·exact k130_
  ·exact k29_
  ·exact k126_
  ·exact k16_
  ·exact k126_
 ·rw [xk_ rfl] at hr1
  subst hr1
  have hcl := hg.c1
  have hsl := hg.n1
  dsimp only at hcl hsl
  have hcl2 : ce.length ≤ 1000000 := by omega
  repeat' (first | refine Ctl.h ?_ | ((with_reducible intro hif); first | (focus (cases hif; done)) | ((try simp only [JH] at hif); try (exfalso; omega))) | ((with_reducible first | apply J22 zh_ za_ | apply J23 fol zh_ za_ | apply J24); (·rfl); (· exact k142_); (try kernel_rfl); try exact k25_) | fail)
  with_reducible apply At.itNormal .ready
  ·rfl
  ·rfl
  ·intro h; cases h
  apply haft
  intro w1 M1 D1 hA
  dsimp only
  repeat' (first | refine Ctl.h ?_ | ((with_reducible intro hif); first | (focus (cases hif; done)) | ((try simp only [JH] at hif); try (exfalso; omega))) | ((with_reducible first | apply J22 zh_ za_ | apply J23 fol zh_ za_ | apply J24); (·rfl); (· exact k142_); (try kernel_rfl); try exact k25_) | fail)
  apply At.endsPick [0, 1, 2, 3, 4, 20, 21] za_ (fn := Tryz.f13) (rs := [.cell 12 42, .tmp 13]) hA hro (lb_ rfl) rfl
  ·exact yi_
  ·exact xf_
  ·rfl
  ·rfl
  ·rfl
  ·exact k29_
  ·rfl
  ·exact k126_
  ·exact zs_
  ·exact fun β => by rw [hl]; rfl
  ·exact k126_
theorem Run_bad (P : List Ins) (v : Evi) (t s q o y d f : Int) (cs : List Int) (p1 p2 : Nat) (hP : PG P) (V : VOk v) (hc : cs.length ≤ 1000000) (hE : ropE P v (ys_ y t s cs d) f = 0) (r : RR) (hr : xj_ P v f.toNat (ys_ y t s cs d) Ins0 [] 0 = r) (hb : r.bad ≠ 0) : zo_ Tryz.prog 13 [.sl 1 2 [] 5 0 P.length (some p1), .agg [.int .u64 v.seed, .int .i64 v.process, .int .i64 v.ports, .int .i64 v.look, .int .i64 v.now], .agg [.agg [.int .i64 t, .int .i64 s, .int .i64 q], .int .i64 o, .int .i64 y], .sl 3 4 [] 1 0 cs.length (some p2), .int .i64 d, .int .i64 f]
  [.gone, .gone, .ro (.arr P.length 5 (prS P)), .gone, .ro (.arr cs.length 1 (i64S cs))]
  (.tup [.agg [.nat .i64 r.tr.length, .int .i64 r.at_, .sl 0 0 [] 0 0 0 (some 0), .nat .i64 0, .sl 0 0 [] 0 0 0 (some 0)], .int .i64 r.bad]) [.gone] := by
 have hok := hP.ok
 have hn := hP.len
 have hn' : P.length ≤ 1000000 := by omega
 have hf := (ropE_zero hE).1
 have hO := openE_zero (ropE_zero hE).2
 have hG : SG P (ys_ y t s cs d) := SG.of hO.2.2 (by simp [ys_])
 obtain ⟨s0, hs0⟩ : ∃ s0, ys_ y t s cs d = s0 := ⟨_, rfl⟩
 rw [hs0] at hE hr hG
 have hl0 : ∀ ex, Less (.own 42 (.agg [.nat .i64 0, .nat .i64 0, .sl 0 0 [] 0 0 0 (some 0), .nat .i64 0, .sl 0 0 [] 0 0 0 (some 0)]) ex) (.own 42 (.agg [.nat .i64 0, .int .i64 0, .sl 0 0 [] 0 0 0 (some 0), .nat .i64 0, .sl 0 0 [] 0 0 0 (some 0)]) ex) := fun ex => less_res
 have hl1 := hl0 true
 refine ze_ (fn := Tryz.f13) 5 66 0 rfl rfl rfl rfl rfl u20_ rfl fun w0 M E hro => ?_
 repeat' (first | refine Ctl.h ?_ | ((with_reducible intro hif); first | (focus (cases hif; done)) | ((try simp only [JH] at hif); try (exfalso; omega))) | ((with_reducible first | apply J22 zh_ za_ | apply J23 fol zh_ za_ | apply J24); (·rfl); (· exact k138_); (try kernel_rfl); try exact k137_) | fail)
 with_reducible apply WF.range (fn' := Tryz.f88) 28
 ·exact k124_
 ·exact xf_
 ·rfl
 ·rfl
 ·rfl
 ·rfl
 ·rfl
 ·rfl
 ·rfl
 intro E1 rec tmps after hE1 hrec hcf haft
 repeat' (first | refine Ctl.h ?_ | ((with_reducible intro hif); first | (focus (cases hif; done)) | ((try simp only [JH] at hif); try (exfalso; omega))) | ((with_reducible first | apply J22 zh_ za_ | apply J23 fol zh_ za_ | apply J24); (·rfl); (· exact k139_); (try kernel_rfl); try exact k25_) | fail)
 refine At.pick (L2 := [.gone, .gone, .ro (.arr P.length 5 (prS P)), .gone, .ro (.arr cs.length 1 (i64S cs)), .gone, .gone, .own 42 (.agg [.nat .i64 0, .nat .i64 0, .sl 0 0 [] 0 0 0 (some 0), .nat .i64 0, .sl 0 0 [] 0 0 0 (some 0)]) true, eB 9 12 P.length, mB s0 v Ins0 10 19, cB s0, .gone, prO P, .own 43 (.int .i64 0) true, .own 42 (.agg [.nat .i64 0, .int .i64 0, .sl 0 0 [] 0 0 0 (some 0), .nat .i64 0, .sl 0 0 [] 0 0 0 (some 0)]) true, pbB 8, fbB f, .raw (.deferred (some [])), .raw (.loop (rec .ready none)), sB s0]) (φ2 := [(0, .yl 18), (1, .ptr 15 []), (2, .ptr 16 []), (4, .nat .i64 0)]) [0, 1, 2, 3, 4, 5, 6, 7, 8, 9, 10, 11, 12, 13, 14, 15, 16, 17, 18, 11] rfl rfl rfl ?_ rfl ?_ ?_ ?_ rfl ?_
 ·exact k125_
 ·exact k131_
 ·exact k16_
 ·exact k131_
 refine WF.loopAt (fun (z : RS) => RInv P v f r z) (fun (z : RS) => [(0, .yl 18), (1, .ptr 15 []), (2, .ptr 16 []), (4, .nat .i64 z.k)]) (fun (z : RS) => [.gone, .gone, .ro (.arr P.length 5 (prS P)), .gone, .ro (.arr cs.length 1 (i64S cs)), .gone, .gone, .own 42 (.agg [.nat .i64 0, .nat .i64 0, .sl 0 0 [] 0 0 0 (some 0), .nat .i64 0, .sl 0 0 [] 0 0 0 (some 0)]) true, eB 9 12 P.length, mB z.s v z.x 10 19, cB z.s, .gone, prO P, .own 43 (.int .i64 0) true, .own 42 (.agg [.nat .i64 z.k, .int .i64 z.a, .sl 0 0 [] 0 0 0 (some 0), .nat .i64 0, .sl 0 0 [] 0 0 0 (some 0)]) true, pbB 8, fbB f, .raw (.deferred (some [])), .raw (.loop (rec .ready none)), sB z.s]) (fun (z : RS) => f.toNat - z.k) ⟨0, s0, Ins0, [], 0⟩ ⟨Nat.zero_le _, hG, rfl, hr⟩ ?_ ?_ rfl ?_ ?_ rfl ?_
 ·exact k5_
 ·exact k6_
 ·exact k131_
 ·exact k131_
 rintro ⟨k, ⟨at1, en, rg, ce, dr, se⟩, x, tr, a⟩ ⟨hk, hg, hl, hr1⟩
 dsimp only at hk hg hl hr1 ⊢
 cases en
 ·by_cases hkf : k < f.toNat
  ·have hkf2 : (k : Int) < f := by omega
   by_cases hst : xg_ P v ⟨at1, false, rg, ce, dr, se⟩ = 0
   ·repeat' (first | refine Ctl.h ?_ | ((with_reducible intro hif); first | (focus (cases hif; done)) | ((try simp only [JH] at hif); try (exfalso; omega))) | ((with_reducible first | apply J22 zh_ za_ | apply J23 fol zh_ za_ | apply J24); (·rfl); (· exact k140_); (try kernel_rfl); try exact k25_) | fail)
    with_reducible apply WF.split 3 5
    ·rfl
    with_reducible apply At.run zh_ za_
    ·rfl
    ·rfl
    ·rfl
    ·exact k127_
    ·exact yw_
    with_reducible apply At.yield (gr := _)
    ·rfl
    ·rfl
    ·rfl
    ·rfl
    ·rfl
    ·rfl
    ·exact k127_
    ·exact k129_
    ·exact k127_
    ·exact yw_
    ·exact k127_
    ·exact yw_
    ·exact k129_
    ·exact hrec
    ·exact hcf
    ·rfl
    ·rfl
    ·rfl
    intro lb E2 next hE2 hnext
    repeat' (first | refine Ctl.h ?_ | ((with_reducible intro hif); first | (focus (cases hif; done)) | ((try simp only [JH] at hif); try (exfalso; omega))) | ((with_reducible first | apply J22 zh_ za_ | apply J23 fol zh_ za_ | apply J24); (·rfl); (· exact k141_); (try kernel_rfl); try exact k25_) | fail)
    with_reducible apply At.begins hrec
    ·rfl
    with_reducible refine At.code ?_
    repeat' (first | refine Ctl.h ?_ | ((with_reducible intro hif); first | (focus (cases hif; done)) | ((try simp only [JH] at hif); try (exfalso; omega))) | ((with_reducible first | apply J22 zh_ za_ | apply J23 fol zh_ za_ | apply J24); (·rfl); (· exact k141_); (try kernel_rfl); try exact k25_) | fail)
    with_reducible apply At.roundNormal
    ·exact k129_
    apply hnext
    with_reducible apply At.runEnd zh_ za_
    ·rfl
    ·rfl
    ·rfl
    ·exact k127_
    ·exact yw_
    repeat' (first | refine Ctl.h ?_ | ((with_reducible intro hif); first | (focus (cases hif; done)) | ((try simp only [JH] at hif); try (exfalso; omega))) | ((with_reducible first | apply J22 zh_ za_ | apply J23 fol zh_ za_ | apply J24); (·rfl); (· exact k141_); (try kernel_rfl); try exact k25_) | fail)
    refine At.nextPick [0, 1, 2, 3, 4, 5, 6, 7, 8, 9, 10, 11, 12, 13, 14, 15, 16, 17, 18, 20] ⟨k + 1, xp_ P v ⟨at1, false, rg, ce, dr, se⟩, stepX P ⟨at1, false, rg, ce, dr, se⟩ x, tr ++ [at1], at1⟩ ?_ rfl rfl rfl ?_ rfl ?_ ?_ ?_ rfl
    ·exact k130_
    ·exact k29_
    ·exact k131_
    ·exact k16_
    ·exact k131_
   ·rw [runA_bad rfl (by omega) hst] at hr1
    subst hr1
    have hn190 := stepE_ne190 P v ⟨at1, false, rg, ce, dr, se⟩
    have hl2 : (tr ++ [at1]).length = k + 1 := by simp [hl]
    repeat' (first | refine Ctl.h ?_ | ((with_reducible intro hif); first | (focus (cases hif; done)) | ((try simp only [JH] at hif); try (exfalso; omega))) | ((with_reducible first | apply J22 zh_ za_ | apply J23 fol zh_ za_ | apply J24); (·rfl); (· exact k140_); (try kernel_rfl); try exact k25_) | fail)
    with_reducible apply WF.split 3 5
    ·rfl
    with_reducible apply At.run zh_ za_
    ·rfl
    ·rfl
    ·rfl
    ·exact k127_
    ·exact yw_
    with_reducible apply At.yield (gr := _)
    ·rfl
    ·rfl
    ·rfl
    ·rfl
    ·rfl
    ·rfl
    ·exact k127_
    ·exact k129_
    ·exact k127_
    ·exact yw_
    ·exact k127_
    ·exact yw_
    ·exact k129_
    ·exact hrec
    ·exact hcf
    ·rfl
    ·rfl
    ·rfl
    intro lb E2 next hE2 hnext
    repeat' (first | refine Ctl.h ?_ | ((with_reducible intro hif); first | (focus (cases hif; done)) | ((try simp only [JH] at hif); try (exfalso; omega))) | ((with_reducible first | apply J22 zh_ za_ | apply J23 fol zh_ za_ | apply J24); (·rfl); (· exact k141_); (try kernel_rfl); try exact k25_) | fail)
    with_reducible apply At.begins hrec
    ·rfl
    with_reducible refine At.code ?_
    repeat' (first | refine Ctl.h ?_ | ((with_reducible intro hif); first | (focus (cases hif; done)) | ((try simp only [JH] at hif); try (exfalso; omega))) | ((with_reducible first | apply J22 zh_ za_ | apply J23 fol zh_ za_ | apply J24); (·rfl); (· (simp only [push_cast, ↓JP, Nat.reduceAdd, Nat.reduceEqDiff, Nat.reduceLT, Nat.reduceMul, Nat.reduceLeDiff, reduceCtorEq, reduceIte, ↓JK, cRun, JM, engP, prP, macP, yr_, memN, eB, prO, pbB, fbB, JE, eEnded, eAt, eStep, xm_, inR, inN, hst, hn190]; rfl)); (try kernel_rfl); try exact k25_) | fail)
    with_reducible apply At.roundExit
    ·exact k129_
    apply hnext
    with_reducible apply At.runEnd zh_ za_
    ·rfl
    ·rfl
    ·rfl
    ·exact k127_
    ·exact yw_
    repeat' (first | refine Ctl.h ?_ | ((with_reducible intro hif); first | (focus (cases hif; done)) | ((try simp only [JH] at hif); try (exfalso; omega))) | ((with_reducible first | apply J22 zh_ za_ | apply J23 fol zh_ za_ | apply J24); (·rfl); (· exact k141_); (try kernel_rfl); try exact k25_) | fail)
    with_reducible apply At.itRet .done
    ·rfl
    ·rfl
    ·intro h; cases h
    apply haft
    intro w1 M1 D1 hA
    dsimp only
    repeat' (first | refine Ctl.h ?_ | ((with_reducible intro hif); first | (focus (cases hif; done)) | ((try simp only [JH] at hif); try (exfalso; omega))) | ((with_reducible first | apply J22 zh_ za_ | apply J23 fol zh_ za_ | apply J24); (·rfl); (· exact k141_); (try kernel_rfl); try exact k25_) | fail)
    apply At.endsRet za_ (fn := Tryz.f13) (rs := [.cell 12 42, .tmp 13]) hA hro (lb_ rfl) rfl
    ·exact yi_
    ·exact yl_
    ·exact k6_
    ·rfl
    ·exact k131_
    ·exact zs_
    ·exact fun β => by rw [hl2]; rfl
    ·exact k131_
  ·have e0 : f.toNat - k = 0 := by omega
   have hkf2 : ¬ (k : Int) < f := by omega
   rw [e0, xr_ rfl] at hr1
   subst hr1
   repeat' (first | refine Ctl.h ?_ | ((with_reducible intro hif); first | (focus (cases hif; done)) | ((try simp only [JH] at hif); try (exfalso; omega))) | ((with_reducible first | apply J22 zh_ za_ | apply J23 fol zh_ za_ | apply J24); (·rfl); (· (simp only [push_cast, ↓JP, Nat.reduceAdd, Nat.reduceEqDiff, Nat.reduceLT, Nat.reduceMul, Nat.reduceLeDiff, reduceCtorEq, reduceIte, ↓JK, cRun, JM, engP, prP, macP, yr_, memN, eB, prO, pbB, fbB, JE, eEnded, eAt, eStep, xm_, inR, inN, hkf2]; rfl)); (try kernel_rfl); try exact k25_) | fail)
   with_reducible apply WF.split 3 5
   ·rfl
   with_reducible apply At.run zh_ za_
   ·rfl
   ·rfl
   ·rfl
   ·exact k132_
   ·exact yw_
   with_reducible apply At.yield (gr := _)
   ·rfl
   ·rfl
   ·rfl
   ·rfl
   ·rfl
   ·rfl
   ·exact k132_
   ·exact k133_
   ·exact k132_
   ·exact yw_
   ·exact k132_
   ·exact yw_
   ·exact k133_
   ·exact hrec
   ·exact hcf
   ·rfl
   ·rfl
   ·rfl
   intro lb E2 next hE2 hnext
   repeat' (first | refine Ctl.h ?_ | ((with_reducible intro hif); first | (focus (cases hif; done)) | ((try simp only [JH] at hif); try (exfalso; omega))) | ((with_reducible first | apply J22 zh_ za_ | apply J23 fol zh_ za_ | apply J24); (·rfl); (· exact k143_); (try kernel_rfl); try exact k25_) | fail)
   with_reducible apply At.begins hrec
   ·rfl
   with_reducible refine At.code ?_
   repeat' (first | refine Ctl.h ?_ | ((with_reducible intro hif); first | (focus (cases hif; done)) | ((try simp only [JH] at hif); try (exfalso; omega))) | ((with_reducible first | apply J22 zh_ za_ | apply J23 fol zh_ za_ | apply J24); (·rfl); (· exact k143_); (try kernel_rfl); try exact k25_) | fail)
   with_reducible apply At.roundExit
   ·exact k133_
   apply hnext
   with_reducible apply At.runEnd zh_ za_
   ·rfl
   ·rfl
   ·rfl
   ·exact k132_
   ·exact yw_
   repeat' (first | refine Ctl.h ?_ | ((with_reducible intro hif); first | (focus (cases hif; done)) | ((try simp only [JH] at hif); try (exfalso; omega))) | ((with_reducible first | apply J22 zh_ za_ | apply J23 fol zh_ za_ | apply J24); (·rfl); (· exact k143_); (try kernel_rfl); try exact k25_) | fail)
   with_reducible apply At.itRet .done
   ·rfl
   ·rfl
   ·intro h; cases h
   apply haft
   intro w1 M1 D1 hA
   dsimp only
   repeat' (first | refine Ctl.h ?_ | ((with_reducible intro hif); first | (focus (cases hif; done)) | ((try simp only [JH] at hif); try (exfalso; omega))) | ((with_reducible first | apply J22 zh_ za_ | apply J23 fol zh_ za_ | apply J24); (·rfl); (· exact k143_); (try kernel_rfl); try exact k25_) | fail)
   apply At.endsRet za_ (fn := Tryz.f13) (rs := [.cell 12 42, .tmp 13]) hA hro (lb_ rfl) rfl
   ·exact yi_
   ·exact yl_
   ·exact k6_
   ·rfl
   ·exact k131_
   ·exact zs_
   ·exact fun β => by rw [hl]; rfl
   ·exact k131_
 ·rw [xk_ rfl] at hr1
  rw [← hr1] at hb
  exact absurd rfl hb
def cRej : FuncId → Option yq_ := y3_ [(48, sRoB)]
theorem cRej_ok : ∀ f S, cRej f = some S → zj_ Tryz.prog f S := zp_ ⟨sRoB_ok, trivial⟩
theorem Run_rej (P : List Ins) (v : Evi) (t s q o y d f : Int) (cs : List Int) (p1 p2 : Nat) (hok : ∀ x ∈ P, x.ok) (hn : P.length ≤ 1000000) (hc : cs.length ≤ 1000000) (hE : ropE P v (ys_ y t s cs d) f ≠ 0) : zo_ Tryz.prog 13 [.sl 1 2 [] 5 0 P.length (some p1), .agg [.int .u64 v.seed, .int .i64 v.process, .int .i64 v.ports, .int .i64 v.look, .int .i64 v.now], .agg [.agg [.int .i64 t, .int .i64 s, .int .i64 q], .int .i64 o, .int .i64 y], .sl 3 4 [] 1 0 cs.length (some p2), .int .i64 d, .int .i64 f]
  [.gone, .gone, .ro (.arr P.length 5 (prS P)), .gone, .ro (.arr cs.length 1 (i64S cs))]
  (.tup [.agg [.nat .i64 0, .int .i64 0, .sl 0 0 [] 0 0 0 (some 0), .nat .i64 0, .sl 0 0 [] 0 0 0 (some 0)], .int .i64 (ropE P v (ys_ y t s cs d) f)]) [.gone] := by
 obtain ⟨s0, hs0⟩ : ∃ s0, ys_ y t s cs d = s0 := ⟨_, rfl⟩
 rw [hs0] at hE ⊢
 refine ze_ (fn := Tryz.f13) 5 66 0 rfl rfl rfl rfl rfl u20_ rfl fun w0 M E hro => ?_
 repeat' (first | refine Ctl.h ?_ | ((with_reducible intro hif); first | (focus (cases hif; done)) | ((try simp only [JH] at hif); try (exfalso; omega))) | ((with_reducible first | apply J22 cRej_ok za_ | apply J23 fol cRej_ok za_ | apply J24); (·rfl); (· exact k145_); (try kernel_rfl); try exact k144_) | fail)
 apply At.endsRet za_ (fn := Tryz.f13) (rs := [.cell 12 42, .tmp 13]) Anc.refl hro (lb_ rfl) rfl
 ·exact yi_
 ·exact yl_
 ·exact k6_
 ·rfl
 ·exact k131_
 ·exact zs_
 ·exact fun β => rfl
 ·exact k131_
theorem runO_good {P : List Ins} {v : Evi} {s : Sta} {f : Int} (h : (y9_ P v s f).bad = 0) : ropE P v s f = 0 := by
 by_cases q : ropE P v s f = 0
 ·exact q
 ·unfold y9_ at h
  rw [if_neg q] at h
  exact absurd h q
theorem pg_of {P : List Ins} {v : Evi} {s : Sta} {f : Int} (hok : ∀ x ∈ P, x.ok) (h : ropE P v s f = 0) : PG P ∧ VOk v :=
 have q := openE_zero (ropE_zero h).2
 ⟨⟨hok, q.1⟩, VOk.of q.2.1⟩
theorem RunB_lit (P : List Ins) (v : Evi) (t s q o y d f : Int) (cs : List Int) (p1 p2 : Nat) (hok : ∀ x ∈ P, x.ok) (hn : P.length ≤ 1000000) (hc : cs.length ≤ 1000000) (hb : (y9_ P v (ys_ y t s cs d) f).bad ≠ 0) : zo_ Tryz.prog 13 [.sl 1 2 [] 5 0 P.length (some p1), .agg [.int .u64 v.seed, .int .i64 v.process, .int .i64 v.ports, .int .i64 v.look, .int .i64 v.now], .agg [.agg [.int .i64 t, .int .i64 s, .int .i64 q], .int .i64 o, .int .i64 y], .sl 3 4 [] 1 0 cs.length (some p2), .int .i64 d, .int .i64 f]
  [.gone, .gone, .ro (.arr P.length 5 (prS P)), .gone, .ro (.arr cs.length 1 (i64S cs))]
  (.tup [.agg [.nat .i64 (y9_ P v (ys_ y t s cs d) f).tr.length, .int .i64 (y9_ P v (ys_ y t s cs d) f).at_, .sl 0 0 [] 0 0 0 (some 0), .nat .i64 0, .sl 0 0 [] 0 0 0 (some 0)], .int .i64 (y9_ P v (ys_ y t s cs d) f).bad]) [.gone] := by
 by_cases hE : ropE P v (ys_ y t s cs d) f = 0
 ·have e : y9_ P v (ys_ y t s cs d) f = xj_ P v f.toNat (ys_ y t s cs d) Ins0 [] 0 := by unfold y9_; rw [if_pos hE]
  obtain ⟨hP, V⟩ := pg_of hok hE
  rw [e] at hb ⊢
  exact Run_bad P v t s q o y d f cs p1 p2 hP V hc hE _ rfl hb
 ·have e : y9_ P v (ys_ y t s cs d) f = ⟨[], 0, ropE P v (ys_ y t s cs d) f, zeroSt, Ins0⟩ := by unfold y9_; rw [if_neg hE]
  rw [e]
  exact Run_rej P v t s q o y d f cs p1 p2 hok hn hc hE
theorem RunG_lit (P : List Ins) (v : Evi) (t s q o y d f : Int) (cs : List Int) (p1 p2 : Nat) (hok : ∀ x ∈ P, x.ok) (hc : cs.length ≤ 1000000) (hb : (y9_ P v (ys_ y t s cs d) f).bad = 0) : zo_ Tryz.prog 13 [.sl 1 2 [] 5 0 P.length (some p1), .agg [.int .u64 v.seed, .int .i64 v.process, .int .i64 v.ports, .int .i64 v.look, .int .i64 v.now], .agg [.agg [.int .i64 t, .int .i64 s, .int .i64 q], .int .i64 o, .int .i64 y], .sl 3 4 [] 1 0 cs.length (some p2), .int .i64 d, .int .i64 f]
  [.gone, .gone, .ro (.arr P.length 5 (prS P)), .gone, .ro (.arr cs.length 1 (i64S cs))]
  (.tup [.agg [.nat .i64 (y9_ P v (ys_ y t s cs d) f).tr.length, .int .i64 (y9_ P v (ys_ y t s cs d) f).at_, .sl 5 5 [] 1 0 (y9_ P v (ys_ y t s cs d) f).s.cells.length none, .int .i64 (y9_ P v (ys_ y t s cs d) f).s.draws, .sl 6 6 [] 3 0 (y9_ P v (ys_ y t s cs d) f).s.sends.length none], .int .i64 0]) [.gone, .gone, .gone, .gone, .gone, cB (y9_ P v (ys_ y t s cs d) f).s, sB (y9_ P v (ys_ y t s cs d) f).s] := by
 have hE := runO_good hb
 have e : y9_ P v (ys_ y t s cs d) f = xj_ P v f.toNat (ys_ y t s cs d) Ins0 [] 0 := by unfold y9_; rw [if_pos hE]
 obtain ⟨hP, V⟩ := pg_of hok hE
 rw [e] at hb ⊢
 exact Run_good P v t s q o y d f cs p1 p2 hP V hc hE _ rfl hb
def sRunB : yq_ := fun args h m => match args with
 | [v1, .agg [v2, v3, v4, v5, v6], .agg [.agg [v7, v8, v9], v10, v11], v12, v13, v14] => match xa_ h 5 (.tup []) v1, xa_ h 1 (.tup []) v12 with
  | some (c1, n1, f1, r1), some (c12, n12, f12, r12) => bif isI .u64 v2 && isI .i64 v3 && isI .i64 v4 && isI .i64 v5 && isI .i64 v6 && isI .i64 v7 && isI .i64 v8 && isI .i64 v9 && isI .i64 v10 && isI .i64 v11 && isI .i64 v13 && isI .i64 v14 then some (c1 ∧ c12 ∧ (∀ q, q < n1 → isIns (f1 q) = true) ∧ (∀ q, q < n12 → isI .i64 (f12 q) = true) ∧ ((∀ x ∈ (ls zl_ n1 f1), x.ok)) ∧ (n1 ≤ 1000000) ∧ (n12 ≤ 1000000) ∧ ((y9_ (ls zl_ n1 f1) ⟨(iOf v2), (iOf v3), (iOf v4), (iOf v5), (iOf v6)⟩ (ys_ (iOf v11) (iOf v7) (iOf v8) (ls iOf n12 f12) (iOf v13)) (iOf v14)).bad ≠ 0), .tup [.agg [.nat .i64 (y9_ (ls zl_ n1 f1) ⟨(iOf v2), (iOf v3), (iOf v4), (iOf v5), (iOf v6)⟩ (ys_ (iOf v11) (iOf v7) (iOf v8) (ls iOf n12 f12) (iOf v13)) (iOf v14)).tr.length, .int .i64 (y9_ (ls zl_ n1 f1) ⟨(iOf v2), (iOf v3), (iOf v4), (iOf v5), (iOf v6)⟩ (ys_ (iOf v11) (iOf v7) (iOf v8) (ls iOf n12 f12) (iOf v13)) (iOf v14)).at_, .sl 0 0 [] 0 0 0 (some 0), .nat .i64 0, .sl 0 0 [] 0 0 0 (some 0)], .int .i64 (y9_ (ls zl_ n1 f1) ⟨(iOf v2), (iOf v3), (iOf v4), (iOf v5), (iOf v6)⟩ (ys_ (iOf v11) (iOf v7) (iOf v8) (ls iOf n12 f12) (iOf v13)) (iOf v14)).bad], r1 ++ r12, []) else none
  | _, _ => none
 | _ => none
theorem sRunB_ok : zj_ Tryz.prog 13 sRunB := by
 refine ⟨zf_ (by kernel_rfl), fun args h m c v rd wr hs hm hc w0 M β h' w R hrd hwr hst => ?_⟩
 unfold sRunB at hs
 split at hs
 ·rename_i v1 v2 v3 v4 v5 v6 v7 v8 v9 v10 v11 v12 v13 v14
  split at hs
  ·rename_i c1 n1 f1 r1 c12 n12 f12 r12 a1 a12
   obtain ⟨hb, hs⟩ := zk_ hs
   simp only [Option.some.injEq, Prod.mk.injEq] at hs
   obtain ⟨rfl, rfl, rfl, rfl⟩ := hs
   simp only [Bool.and_eq_true] at hb
   obtain ⟨⟨⟨⟨⟨⟨⟨⟨⟨⟨⟨b2, b3⟩, b4⟩, b5⟩, b6⟩, b7⟩, b8⟩, b9⟩, b10⟩, b11⟩, b13⟩, b14⟩ := hb
   obtain ⟨k1, k12, g1, g12, y1, y2, y3, y4⟩ := hc
   obtain ⟨A1, p1, d1, e1, t1⟩ := zg_ R a1 k1 (fun i hi => hrd i (List.mem_append_left _ hi)) (by omega)
   obtain ⟨A12, p12, d12, e12, t12⟩ := zg_ R a12 k12 (fun i hi => hrd i (List.mem_append_right _ hi)) (by omega)
   refine yf_ (views := [⟨5, (ls zl_ n1 f1).length, prS (ls zl_ n1 f1), A1, p1⟩, ⟨1, (ls iOf n12 f12).length, i64S (ls iOf n12 f12), A12, p12⟩]) (RunB_lit (ls zl_ n1 f1) ⟨(iOf v2), (iOf v3), (iOf v4), (iOf v5), (iOf v6)⟩ (iOf v7) (iOf v8) (iOf v9) (iOf v10) (iOf v11) (iOf v13) (iOf v14) (ls iOf n12 f12) p1 p12 y1 (by rw [zb_]; exact y2) (by rw [zb_]; exact y3) y4) ?_ R hm hwr ?_ ?_ ?_
   ·intro x hx
    simp only [List.mem_cons, List.not_mem_nil, or_false] at hx
    rcases hx with rfl | rfl
    ·exact xn_ t1 e1 g1
    ·exact z0_ t12 e12 g12
   ·intro β1 hv
    simp only [Vd, zb_, and_true] at hv
    obtain ⟨z1, z12⟩ := hv
    simp only [denL, z7_, z6_, z5_, zr_, zb_, z1, z12, d1, d12, zc_ b2, zc_ b3, zc_ b4, zc_ b5, zc_ b6, zc_ b7, zc_ b8, zc_ b9, zc_ b10, zc_ b11, zc_ b13, zc_ b14]
   ·exact k131_
   ·exact k131_
  ·cases hs
 ·cases hs
def sRunG : yq_ := fun args h m => match args with
 | [v1, .agg [v2, v3, v4, v5, v6], .agg [.agg [v7, v8, v9], v10, v11], v12, v13, v14] => match xa_ h 5 (.tup []) v1, xa_ h 1 (.tup []) v12 with
  | some (c1, n1, f1, r1), some (c12, n12, f12, r12) => bif isI .u64 v2 && isI .i64 v3 && isI .i64 v4 && isI .i64 v5 && isI .i64 v6 && isI .i64 v7 && isI .i64 v8 && isI .i64 v9 && isI .i64 v10 && isI .i64 v11 && isI .i64 v13 && isI .i64 v14 then some (c1 ∧ c12 ∧ (∀ q, q < n1 → isIns (f1 q) = true) ∧ (∀ q, q < n12 → isI .i64 (f12 q) = true) ∧ ((∀ x ∈ (ls zl_ n1 f1), x.ok)) ∧ (n1 ≤ 1000000) ∧ (n12 ≤ 1000000) ∧ ((y9_ (ls zl_ n1 f1) ⟨(iOf v2), (iOf v3), (iOf v4), (iOf v5), (iOf v6)⟩ (ys_ (iOf v11) (iOf v7) (iOf v8) (ls iOf n12 f12) (iOf v13)) (iOf v14)).bad = 0), .tup [.agg [.nat .i64 (y9_ (ls zl_ n1 f1) ⟨(iOf v2), (iOf v3), (iOf v4), (iOf v5), (iOf v6)⟩ (ys_ (iOf v11) (iOf v7) (iOf v8) (ls iOf n12 f12) (iOf v13)) (iOf v14)).tr.length, .int .i64 (y9_ (ls zl_ n1 f1) ⟨(iOf v2), (iOf v3), (iOf v4), (iOf v5), (iOf v6)⟩ (ys_ (iOf v11) (iOf v7) (iOf v8) (ls iOf n12 f12) (iOf v13)) (iOf v14)).at_, .sl m m [] 1 0 (y9_ (ls zl_ n1 f1) ⟨(iOf v2), (iOf v3), (iOf v4), (iOf v5), (iOf v6)⟩ (ys_ (iOf v11) (iOf v7) (iOf v8) (ls iOf n12 f12) (iOf v13)) (iOf v14)).s.cells.length none, .int .i64 (y9_ (ls zl_ n1 f1) ⟨(iOf v2), (iOf v3), (iOf v4), (iOf v5), (iOf v6)⟩ (ys_ (iOf v11) (iOf v7) (iOf v8) (ls iOf n12 f12) (iOf v13)) (iOf v14)).s.draws, .sl (m + 1) (m + 1) [] 3 0 (y9_ (ls zl_ n1 f1) ⟨(iOf v2), (iOf v3), (iOf v4), (iOf v5), (iOf v6)⟩ (ys_ (iOf v11) (iOf v7) (iOf v8) (ls iOf n12 f12) (iOf v13)) (iOf v14)).s.sends.length none], .int .i64 0], r1 ++ r12, [(m, cB (y9_ (ls zl_ n1 f1) ⟨(iOf v2), (iOf v3), (iOf v4), (iOf v5), (iOf v6)⟩ (ys_ (iOf v11) (iOf v7) (iOf v8) (ls iOf n12 f12) (iOf v13)) (iOf v14)).s), (m + 1, sB (y9_ (ls zl_ n1 f1) ⟨(iOf v2), (iOf v3), (iOf v4), (iOf v5), (iOf v6)⟩ (ys_ (iOf v11) (iOf v7) (iOf v8) (ls iOf n12 f12) (iOf v13)) (iOf v14)).s)]) else none
  | _, _ => none
 | _ => none
theorem sRunG_ok : zj_ Tryz.prog 13 sRunG := by
 refine ⟨zf_ (by kernel_rfl), fun args h m c v rd wr hs hm hc w0 M β h' w R hrd hwr hst => ?_⟩
 unfold sRunG at hs
 split at hs
 ·rename_i v1 v2 v3 v4 v5 v6 v7 v8 v9 v10 v11 v12 v13 v14
  split at hs
  ·rename_i c1 n1 f1 r1 c12 n12 f12 r12 a1 a12
   obtain ⟨hb, hs⟩ := zk_ hs
   simp only [Option.some.injEq, Prod.mk.injEq] at hs
   obtain ⟨rfl, rfl, rfl, rfl⟩ := hs
   simp only [Bool.and_eq_true] at hb
   obtain ⟨⟨⟨⟨⟨⟨⟨⟨⟨⟨⟨b2, b3⟩, b4⟩, b5⟩, b6⟩, b7⟩, b8⟩, b9⟩, b10⟩, b11⟩, b13⟩, b14⟩ := hb
   obtain ⟨k1, k12, g1, g12, y1, y2, y3, y4⟩ := hc
   obtain ⟨A1, p1, d1, e1, t1⟩ := zg_ R a1 k1 (fun i hi => hrd i (List.mem_append_left _ hi)) (by omega)
   obtain ⟨A12, p12, d12, e12, t12⟩ := zg_ R a12 k12 (fun i hi => hrd i (List.mem_append_right _ hi)) (by omega)
   refine yf_ (views := [⟨5, (ls zl_ n1 f1).length, prS (ls zl_ n1 f1), A1, p1⟩, ⟨1, (ls iOf n12 f12).length, i64S (ls iOf n12 f12), A12, p12⟩]) (RunG_lit (ls zl_ n1 f1) ⟨(iOf v2), (iOf v3), (iOf v4), (iOf v5), (iOf v6)⟩ (iOf v7) (iOf v8) (iOf v9) (iOf v10) (iOf v11) (iOf v13) (iOf v14) (ls iOf n12 f12) p1 p12 y1 (by rw [zb_]; exact y3) y4) ?_ R hm hwr ?_ ?_ ?_
   ·intro x hx
    simp only [List.mem_cons, List.not_mem_nil, or_false] at hx
    rcases hx with rfl | rfl
    ·exact xn_ t1 e1 g1
    ·exact z0_ t12 e12 g12
   ·intro β1 hv
    simp only [Vd, zb_, and_true] at hv
    obtain ⟨z1, z12⟩ := hv
    simp only [denL, z7_, z6_, z5_, zr_, zb_, z1, z12, d1, d12, zc_ b2, zc_ b3, zc_ b4, zc_ b5, zc_ b6, zc_ b7, zc_ b8, zc_ b9, zc_ b10, zc_ b11, zc_ b13, zc_ b14]
   ·exact k131_
   ·exact k131_
  ·cases hs
 ·cases hs
end Go.Proofs.YtjliakjbdcplcaaGreat.Vm
end
end
section
namespace Go.Proofs.YtjliakjbdcplcaaGreat.Vm
open Go.RowKit
attribute [local push_cast] prS zn_ i64S nav_ins xz_ xy_ xx_ xw_ xv_ nav_snd xu_ xt_ xs_ z4_ yh_ yn_ yg_ zw_ zy_ iOf JE inR inN
theorem nilOr_app (D : List Int) (z : Int) : (D ++ [z]).isEmpty = false := by cases D <;> rfl
theorem Trace_go (P : List Ins) (v : Evi) (t s q o y d f : Int) (cs : List Int) (p1 p2 : Nat) (hP : PG P) (V : VOk v) (hc : cs.length ≤ 1000000) (hE : ropE P v (ys_ y t s cs d) f = 0) (r : RR) (hr : xj_ P v f.toNat (ys_ y t s cs d) Ins0 [] 0 = r) : zo_ Tryz.prog 14 [.sl 1 2 [] 5 0 P.length (some p1), .agg [.int .u64 v.seed, .int .i64 v.process, .int .i64 v.ports, .int .i64 v.look, .int .i64 v.now], .agg [.agg [.int .i64 t, .int .i64 s, .int .i64 q], .int .i64 o, .int .i64 y], .sl 3 4 [] 1 0 cs.length (some p2), .int .i64 d, .int .i64 f]
  [.gone, .gone, .ro (.arr P.length 5 (prS P)), .gone, .ro (.arr cs.length 1 (i64S cs))]
  (.tup [nilOr r.tr 5, .int .i64 r.bad]) [.gone, .gone, .gone, .gone, .gone, .own 3 (.arr r.tr.length 1 (i64S r.tr)) false] := by
 have hok := hP.ok
 have hn := hP.len
 have hn' : P.length ≤ 1000000 := by omega
 have hf := (ropE_zero hE).1
 have hO := openE_zero (ropE_zero hE).2
 have hG : SG P (ys_ y t s cs d) := SG.of hO.2.2 (by simp [ys_])
 obtain ⟨s0, hs0⟩ : ∃ s0, ys_ y t s cs d = s0 := ⟨_, rfl⟩
 rw [hs0] at hE hr hG
 refine ze_ (fn := Tryz.f14) 5 46 0 rfl rfl rfl rfl rfl u20_ rfl fun w0 M E hro => ?_
 repeat' (first | refine Ctl.h ?_ | ((with_reducible intro hif); first | (focus (cases hif; done)) | ((try simp only [JH] at hif); try (exfalso; omega))) | ((with_reducible first | apply J22 zh_ za_ | apply J23 fol zh_ za_ | apply J24); (·rfl); (· (simp only [push_cast, ↓JP, Nat.reduceAdd, Nat.reduceEqDiff, Nat.reduceLT, Nat.reduceMul, Nat.reduceLeDiff, reduceCtorEq, reduceIte, ↓JK, cRun, sRoG, sSteps, hs0, hE]; rfl)); (try kernel_rfl); (try (focus (first | exact True.intro | ((try simp only [JS, implies_true, forall_const, z9_, z2_, kndOf]); (first | first | omega | exact ⟨hok, hn', hc⟩ | (repeat' (first | assumption | exact True.intro | omega | apply And.intro))); done))))) | fail)
 with_reducible apply WF.range (fn' := Tryz.f88) 28
 ·exact k124_
 ·exact xf_
 ·rfl
 ·rfl
 ·rfl
 ·rfl
 ·rfl
 ·rfl
 ·rfl
 intro E1 rec tmps after hE1 hrec hcf haft
 repeat' (first | refine Ctl.h ?_ | ((with_reducible intro hif); first | (focus (cases hif; done)) | ((try simp only [JH] at hif); try (exfalso; omega))) | ((with_reducible first | apply J22 zh_ za_ | apply J23 fol zh_ za_ | apply J24); (·rfl); (· (simp only [push_cast, ↓JP, Nat.reduceAdd, Nat.reduceEqDiff, Nat.reduceLT, Nat.reduceMul, Nat.reduceLeDiff, reduceCtorEq, reduceIte, ↓JK, JM, engP, prP, macP, yr_, memN, eB, prO, pbB, fbB]; rfl)); (try kernel_rfl); try exact yk_) | fail)
 refine At.pick (L2 := [.gone, .gone, .ro (.arr P.length 5 (prS P)), .gone, .ro (.arr cs.length 1 (i64S cs)), .gone, .gone, eB 8 11 P.length, mB s0 v Ins0 9 18, cB s0, .gone, prO P, .own 43 (.int .i64 0) true, .own 33 (.sl 0 0 [] 0 0 0 (some 0)) true, pbB 7, fbB f, .raw (.deferred (some [])), .raw (.loop (rec .ready none)), sB s0]) (φ2 := [(0, .yl 17), (1, .ptr 14 []), (2, .ptr 15 []), (4, .nat .i64 0)]) [0, 1, 2, 3, 4, 5, 6, 7, 8, 9, 10, 11, 12, 13, 14, 15, 16, 17, 10] rfl rfl rfl ?_ rfl ?_ ?_ ?_ rfl ?_
 ·exact k29_
 ·exact k134_
 ·exact k16_
 ·exact k134_
 refine WF.empty 3 1 (i64S []) (fun _ q => i64S_stable q) ?_
 refine WF.loopAt (fun (z : RS) => RInv P v f r z) (fun (z : RS) => [(0, .yl 17), (1, .ptr 14 []), (2, .ptr 15 []), (4, .nat .i64 z.k)]) (fun (z : RS) => [.gone, .gone, .ro (.arr P.length 5 (prS P)), .gone, .ro (.arr cs.length 1 (i64S cs)), .gone, .gone, eB 8 11 P.length, mB z.s v z.x 9 18, cB z.s, .gone, prO P, .own 43 (.int .i64 0) true, .own 33 (nilOr z.tr 19) true, pbB 7, fbB f, .raw (.deferred (some [])), .raw (.loop (rec .ready none)), sB z.s, .own 3 (.arr z.tr.length 1 (i64S z.tr)) false]) (fun (z : RS) => f.toNat - z.k) ⟨0, s0, Ins0, [], 0⟩ ⟨Nat.zero_le _, hG, rfl, hr⟩ ?_ ?_ rfl ?_ ?_ rfl ?_
 ·exact k5_
 ·exact k6_
 ·exact k134_
 ·exact k134_
 rintro ⟨k, ⟨at1, en, rg, ce, dr, se⟩, x, tr, a⟩ ⟨hk, hg, hl, hr1⟩
 dsimp only at hk hg hl hr1 ⊢
 have htl : tr.length ≤ 4096 := by omega
 cases en
 ·by_cases hkf : k < f.toNat
  ·have hkf2 : (k : Int) < f := by omega
   have hA1 : ∀ g : Nat → SV, (∀ q, q < tr.length + 1 → g q = SV.ite (decide (q < tr.length)) (.int .i64 (tr.getD q 0)) ([SV.int .i64 at1].getD (q - tr.length) (.nat .i64 0))) → ∀ σ, Less (.own 3 (.arr (tr.length + 1) 1 g) false) ((HB.own 3 (.arr (tr ++ [at1]).length 1 (i64S (tr ++ [at1]))) false).ren σ) := fun g hg σ => less_app tr at1 fun q hq β => by
    rw [hg q hq, y7_]
    by_cases h : q < tr.length
    ·simp only [h, decide_true, cond_true, List.getD_eq_getElem?_getD, List.getElem?_append_left h]; rfl
    ·obtain rfl : q = tr.length := by omega
     simp only [Nat.lt_irrefl, decide_false, cond_false, Nat.sub_self, List.getD_eq_getElem?_getD, List.getElem?_append_right (Nat.le_refl _), List.getElem?_cons_zero, Option.getD_some]; rfl
   have hA0 : ∀ g : Nat → SV, (∀ q, q < 0 + 1 → g q = [SV.int .i64 at1].getD q (.nat .i64 0)) → ∀ σ, Less (.own 3 (.arr (0 + 1) 1 g) false) ((HB.own 3 (.arr ([] ++ [at1]).length 1 (i64S ([] ++ [at1]))) false).ren σ) := fun g hg σ => less_app [] at1 fun q hq β => by
    rw [hg q hq]
    obtain rfl : q = 0 := by simp at hq; omega
    rfl
   have hl2 : (tr ++ [at1]).length = k + 1 := by simp [hl]
   have hn190 := stepE_ne190 P v ⟨at1, false, rg, ce, dr, se⟩
   by_cases hst : xg_ P v ⟨at1, false, rg, ce, dr, se⟩ = 0
   ·cases hDe : tr.isEmpty
    ·rw [nilOr_f hDe]
     repeat' (first | refine Ctl.h ?_ | ((with_reducible intro hif); first | (focus (cases hif; done)) | ((try simp only [JH] at hif); try (exfalso; omega))) | ((with_reducible first | apply J22 zh_ za_ | apply J23 fol zh_ za_ | apply J24); (·rfl); (· exact k146_); (try kernel_rfl); try exact yk_) | fail)
     with_reducible apply WF.split 3 5
     ·rfl
     with_reducible apply At.run zh_ za_
     ·rfl
     ·rfl
     ·rfl
     ·exact k127_
     ·exact yw_
     with_reducible apply At.yield (gr := _)
     ·rfl
     ·rfl
     ·rfl
     ·rfl
     ·rfl
     ·rfl
     ·exact k127_
     ·exact k129_
     ·exact k127_
     ·exact yw_
     ·exact k127_
     ·exact yw_
     ·exact k129_
     ·exact hrec
     ·exact hcf
     ·rfl
     ·rfl
     ·rfl
     intro lb E2 next hE2 hnext
     repeat' (first | refine Ctl.h ?_ | ((with_reducible intro hif); first | (focus (cases hif; done)) | ((try simp only [JH] at hif); try (exfalso; omega))) | ((with_reducible first | apply J22 zh_ za_ | apply J23 fol zh_ za_ | apply J24); (·rfl); (· exact k147_); (try kernel_rfl); try exact yk_) | fail)
     with_reducible apply At.begins hrec
     ·rfl
     with_reducible refine At.code ?_
     repeat' (first | refine Ctl.h ?_ | ((with_reducible intro hif); first | (focus (cases hif; done)) | ((try simp only [JH] at hif); try (exfalso; omega))) | ((with_reducible first | apply J22 zh_ za_ | apply J23 fol zh_ za_ | apply J24); (·rfl); (· exact k148_); (try kernel_rfl); try exact yk_) | fail)
     with_reducible apply At.roundNormal
     ·exact k129_
     apply hnext
     with_reducible apply At.runEnd zh_ za_
     ·rfl
     ·rfl
     ·rfl
     ·exact k127_
     ·exact yw_
     repeat' (first | refine Ctl.h ?_ | ((with_reducible intro hif); first | (focus (cases hif; done)) | ((try simp only [JH] at hif); try (exfalso; omega))) | ((with_reducible first | apply J22 zh_ za_ | apply J23 fol zh_ za_ | apply J24); (·rfl); (· exact k147_); (try kernel_rfl); try exact yk_) | fail)
     refine At.nextPick [0, 1, 2, 3, 4, 5, 6, 7, 8, 9, 10, 11, 12, 13, 14, 15, 16, 17, 20, 22] ⟨k + 1, xp_ P v ⟨at1, false, rg, ce, dr, se⟩, stepX P ⟨at1, false, rg, ce, dr, se⟩ x, tr ++ [at1], at1⟩ ?_ rfl rfl rfl ?_ rfl ?_ ?_ ?_ rfl
     ·exact k135_
     ·exact k136_
     ·exact k134_
     ·exact k16_
     ·exact k134_
    ·rw [nilOr_t hDe]
     have hDz : tr = [] := by simpa using hDe
     subst hDz
     repeat' (first | refine Ctl.h ?_ | ((with_reducible intro hif); first | (focus (cases hif; done)) | ((try simp only [JH] at hif); try (exfalso; omega))) | ((with_reducible first | apply J22 zh_ za_ | apply J23 fol zh_ za_ | apply J24); (·rfl); (· exact k146_); (try kernel_rfl); try exact yk_) | fail)
     with_reducible apply WF.split 3 5
     ·rfl
     with_reducible apply At.run zh_ za_
     ·rfl
     ·rfl
     ·rfl
     ·exact k127_
     ·exact yw_
     with_reducible apply At.yield (gr := _)
     ·rfl
     ·rfl
     ·rfl
     ·rfl
     ·rfl
     ·rfl
     ·exact k127_
     ·exact k129_
     ·exact k127_
     ·exact yw_
     ·exact k127_
     ·exact yw_
     ·exact k129_
     ·exact hrec
     ·exact hcf
     ·rfl
     ·rfl
     ·rfl
     intro lb E2 next hE2 hnext
     repeat' (first | refine Ctl.h ?_ | ((with_reducible intro hif); first | (focus (cases hif; done)) | ((try simp only [JH] at hif); try (exfalso; omega))) | ((with_reducible first | apply J22 zh_ za_ | apply J23 fol zh_ za_ | apply J24); (·rfl); (· exact k147_); (try kernel_rfl); try exact yk_) | fail)
     with_reducible apply At.begins hrec
     ·rfl
     with_reducible refine At.code ?_
     repeat' (first | refine Ctl.h ?_ | ((with_reducible intro hif); first | (focus (cases hif; done)) | ((try simp only [JH] at hif); try (exfalso; omega))) | ((with_reducible first | apply J22 zh_ za_ | apply J23 fol zh_ za_ | apply J24); (·rfl); (· exact k148_); (try kernel_rfl); try exact yk_) | fail)
     with_reducible apply At.roundNormal
     ·exact k129_
     apply hnext
     with_reducible apply At.runEnd zh_ za_
     ·rfl
     ·rfl
     ·rfl
     ·exact k127_
     ·exact yw_
     repeat' (first | refine Ctl.h ?_ | ((with_reducible intro hif); first | (focus (cases hif; done)) | ((try simp only [JH] at hif); try (exfalso; omega))) | ((with_reducible first | apply J22 zh_ za_ | apply J23 fol zh_ za_ | apply J24); (·rfl); (· exact k147_); (try kernel_rfl); try exact yk_) | fail)
     refine At.nextPick [0, 1, 2, 3, 4, 5, 6, 7, 8, 9, 10, 11, 12, 13, 14, 15, 16, 17, 20, 22] ⟨k + 1, xp_ P v ⟨at1, false, rg, ce, dr, se⟩, stepX P ⟨at1, false, rg, ce, dr, se⟩ x, [] ++ [at1], at1⟩ ?_ rfl rfl rfl ?_ rfl ?_ ?_ ?_ rfl
     ·exact k135_
     ·exact k136_
     ·exact k134_
     ·exact k16_
     ·exact k134_
   ·rw [runA_bad rfl (by omega) hst] at hr1
    subst hr1
    have hnf : nilOr (tr ++ [at1]) 5 = .sl 5 5 [] 1 0 (tr ++ [at1]).length none := nilOr_f (nilOr_app tr at1)
    cases hDe : tr.isEmpty
    ·rw [nilOr_f hDe]
     repeat' (first | refine Ctl.h ?_ | ((with_reducible intro hif); first | (focus (cases hif; done)) | ((try simp only [JH] at hif); try (exfalso; omega))) | ((with_reducible first | apply J22 zh_ za_ | apply J23 fol zh_ za_ | apply J24); (·rfl); (· exact k146_); (try kernel_rfl); try exact yk_) | fail)
     with_reducible apply WF.split 3 5
     ·rfl
     with_reducible apply At.run zh_ za_
     ·rfl
     ·rfl
     ·rfl
     ·exact k127_
     ·exact yw_
     with_reducible apply At.yield (gr := _)
     ·rfl
     ·rfl
     ·rfl
     ·rfl
     ·rfl
     ·rfl
     ·exact k127_
     ·exact k129_
     ·exact k127_
     ·exact yw_
     ·exact k127_
     ·exact yw_
     ·exact k129_
     ·exact hrec
     ·exact hcf
     ·rfl
     ·rfl
     ·rfl
     intro lb E2 next hE2 hnext
     repeat' (first | refine Ctl.h ?_ | ((with_reducible intro hif); first | (focus (cases hif; done)) | ((try simp only [JH] at hif); try (exfalso; omega))) | ((with_reducible first | apply J22 zh_ za_ | apply J23 fol zh_ za_ | apply J24); (·rfl); (· exact k147_); (try kernel_rfl); try exact yk_) | fail)
     with_reducible apply At.begins hrec
     ·rfl
     with_reducible refine At.code ?_
     repeat' (first | refine Ctl.h ?_ | ((with_reducible intro hif); first | (focus (cases hif; done)) | ((try simp only [JH] at hif); try (exfalso; omega))) | ((with_reducible first | apply J22 zh_ za_ | apply J23 fol zh_ za_ | apply J24); (·rfl); (· exact k148_); (try kernel_rfl); try exact yk_) | fail)
     with_reducible apply At.roundNormal
     ·exact k129_
     apply hnext
     with_reducible apply At.runEnd zh_ za_
     ·rfl
     ·rfl
     ·rfl
     ·exact k127_
     ·exact yw_
     repeat' (first | refine Ctl.h ?_ | ((with_reducible intro hif); first | (focus (cases hif; done)) | ((try simp only [JH] at hif); try (exfalso; omega))) | ((with_reducible first | apply J22 zh_ za_ | apply J23 fol zh_ za_ | apply J24); (·rfl); (· exact k147_); (try kernel_rfl); try exact yk_) | fail)
     with_reducible apply At.itRet .ready
     ·rfl
     ·rfl
     ·intro h; cases h
     apply haft
     intro w1 M1 D1 hA
     dsimp only
     rw [hnf]
     repeat' (first | refine Ctl.h ?_ | ((with_reducible intro hif); first | (focus (cases hif; done)) | ((try simp only [JH] at hif); try (exfalso; omega))) | ((with_reducible first | apply J22 zh_ za_ | apply J23 fol zh_ za_ | apply J24); (·rfl); (· exact k147_); (try kernel_rfl); try exact yk_) | fail)
     apply At.endsPick [0, 1, 2, 3, 4, 22] za_ (fn := Tryz.f14) (rs := [.tmp 12, .tmp 13]) hA hro (lb_ rfl) rfl
     ·exact yi_
     ·exact xf_
     ·rfl
     ·rfl
     ·rfl
     ·exact k136_
     ·rfl
     ·exact k134_
     ·exact zs_
     ·exact fun β => by rw [show (tr ++ [at1]).length = tr.length + 1 by simp]; rfl
     ·exact k134_
    ·rw [nilOr_t hDe]
     have hDz : tr = [] := by simpa using hDe
     subst hDz
     repeat' (first | refine Ctl.h ?_ | ((with_reducible intro hif); first | (focus (cases hif; done)) | ((try simp only [JH] at hif); try (exfalso; omega))) | ((with_reducible first | apply J22 zh_ za_ | apply J23 fol zh_ za_ | apply J24); (·rfl); (· exact k146_); (try kernel_rfl); try exact yk_) | fail)
     with_reducible apply WF.split 3 5
     ·rfl
     with_reducible apply At.run zh_ za_
     ·rfl
     ·rfl
     ·rfl
     ·exact k127_
     ·exact yw_
     with_reducible apply At.yield (gr := _)
     ·rfl
     ·rfl
     ·rfl
     ·rfl
     ·rfl
     ·rfl
     ·exact k127_
     ·exact k129_
     ·exact k127_
     ·exact yw_
     ·exact k127_
     ·exact yw_
     ·exact k129_
     ·exact hrec
     ·exact hcf
     ·rfl
     ·rfl
     ·rfl
     intro lb E2 next hE2 hnext
     repeat' (first | refine Ctl.h ?_ | ((with_reducible intro hif); first | (focus (cases hif; done)) | ((try simp only [JH] at hif); try (exfalso; omega))) | ((with_reducible first | apply J22 zh_ za_ | apply J23 fol zh_ za_ | apply J24); (·rfl); (· exact k147_); (try kernel_rfl); try exact yk_) | fail)
     with_reducible apply At.begins hrec
     ·rfl
     with_reducible refine At.code ?_
     repeat' (first | refine Ctl.h ?_ | ((with_reducible intro hif); first | (focus (cases hif; done)) | ((try simp only [JH] at hif); try (exfalso; omega))) | ((with_reducible first | apply J22 zh_ za_ | apply J23 fol zh_ za_ | apply J24); (·rfl); (· exact k148_); (try kernel_rfl); try exact yk_) | fail)
     with_reducible apply At.roundNormal
     ·exact k129_
     apply hnext
     with_reducible apply At.runEnd zh_ za_
     ·rfl
     ·rfl
     ·rfl
     ·exact k127_
     ·exact yw_
     repeat' (first | refine Ctl.h ?_ | ((with_reducible intro hif); first | (focus (cases hif; done)) | ((try simp only [JH] at hif); try (exfalso; omega))) | ((with_reducible first | apply J22 zh_ za_ | apply J23 fol zh_ za_ | apply J24); (·rfl); (· exact k147_); (try kernel_rfl); try exact yk_) | fail)
     with_reducible apply At.itRet .ready
     ·rfl
     ·rfl
     ·intro h; cases h
     apply haft
     intro w1 M1 D1 hA
     dsimp only
     rw [hnf]
     repeat' (first | refine Ctl.h ?_ | ((with_reducible intro hif); first | (focus (cases hif; done)) | ((try simp only [JH] at hif); try (exfalso; omega))) | ((with_reducible first | apply J22 zh_ za_ | apply J23 fol zh_ za_ | apply J24); (·rfl); (· exact k147_); (try kernel_rfl); try exact yk_) | fail)
     apply At.endsPick [0, 1, 2, 3, 4, 22] za_ (fn := Tryz.f14) (rs := [.tmp 12, .tmp 13]) hA hro (lb_ rfl) rfl
     ·exact yi_
     ·exact xf_
     ·rfl
     ·rfl
     ·rfl
     ·exact k136_
     ·rfl
     ·exact k134_
     ·exact zs_
     ·exact fun β => rfl
     ·exact k134_
  ·have e0 : f.toNat - k = 0 := by omega
   have hkf2 : ¬ (k : Int) < f := by omega
   rw [e0, xr_ rfl] at hr1
   subst hr1
   cases hDe : tr.isEmpty
   ·rw [nilOr_f hDe]
    repeat' (first | refine Ctl.h ?_ | ((with_reducible intro hif); first | (focus (cases hif; done)) | ((try simp only [JH] at hif); try (exfalso; omega))) | ((with_reducible first | apply J22 zh_ za_ | apply J23 fol zh_ za_ | apply J24); (·rfl); (· exact k149_); (try kernel_rfl); try exact yk_) | fail)
    with_reducible apply WF.split 3 5
    ·rfl
    with_reducible apply At.run zh_ za_
    ·rfl
    ·rfl
    ·rfl
    ·exact k132_
    ·exact yw_
    with_reducible apply At.yield (gr := _)
    ·rfl
    ·rfl
    ·rfl
    ·rfl
    ·rfl
    ·rfl
    ·exact k132_
    ·exact k133_
    ·exact k132_
    ·exact yw_
    ·exact k132_
    ·exact yw_
    ·exact k133_
    ·exact hrec
    ·exact hcf
    ·rfl
    ·rfl
    ·rfl
    intro lb E2 next hE2 hnext
    repeat' (first | refine Ctl.h ?_ | ((with_reducible intro hif); first | (focus (cases hif; done)) | ((try simp only [JH] at hif); try (exfalso; omega))) | ((with_reducible first | apply J22 zh_ za_ | apply J23 fol zh_ za_ | apply J24); (·rfl); (· exact k150_); (try kernel_rfl); try exact yk_) | fail)
    with_reducible apply At.begins hrec
    ·rfl
    with_reducible refine At.code ?_
    repeat' (first | refine Ctl.h ?_ | ((with_reducible intro hif); first | (focus (cases hif; done)) | ((try simp only [JH] at hif); try (exfalso; omega))) | ((with_reducible first | apply J22 zh_ za_ | apply J23 fol zh_ za_ | apply J24); (·rfl); (· exact k150_); (try kernel_rfl); try exact yk_) | fail)
    with_reducible apply At.roundNormal
    ·exact k133_
    apply hnext
    with_reducible apply At.runEnd zh_ za_
    ·rfl
    ·rfl
    ·rfl
    ·exact k132_
    ·exact yw_
    repeat' (first | refine Ctl.h ?_ | ((with_reducible intro hif); first | (focus (cases hif; done)) | ((try simp only [JH] at hif); try (exfalso; omega))) | ((with_reducible first | apply J22 zh_ za_ | apply J23 fol zh_ za_ | apply J24); (·rfl); (· exact k150_); (try kernel_rfl); try exact yk_) | fail)
    with_reducible apply At.itRet .ready
    ·rfl
    ·rfl
    ·intro h; cases h
    apply haft
    intro w1 M1 D1 hA
    dsimp only
    rw [nilOr_f hDe]
    repeat' (first | refine Ctl.h ?_ | ((with_reducible intro hif); first | (focus (cases hif; done)) | ((try simp only [JH] at hif); try (exfalso; omega))) | ((with_reducible first | apply J22 zh_ za_ | apply J23 fol zh_ za_ | apply J24); (·rfl); (· exact k150_); (try kernel_rfl); try exact yk_) | fail)
    apply At.endsPick [0, 1, 2, 3, 4, 19] za_ (fn := Tryz.f14) (rs := [.tmp 12, .tmp 13]) hA hro (lb_ rfl) rfl
    ·exact yi_
    ·exact xf_
    ·rfl
    ·rfl
    ·rfl
    ·exact k29_
    ·rfl
    ·exact k134_
    ·exact zs_
    ·exact fun β => rfl
    ·exact k134_
   ·rw [nilOr_t hDe]
    repeat' (first | refine Ctl.h ?_ | ((with_reducible intro hif); first | (focus (cases hif; done)) | ((try simp only [JH] at hif); try (exfalso; omega))) | ((with_reducible first | apply J22 zh_ za_ | apply J23 fol zh_ za_ | apply J24); (·rfl); (· exact k149_); (try kernel_rfl); try exact yk_) | fail)
    with_reducible apply WF.split 3 5
    ·rfl
    with_reducible apply At.run zh_ za_
    ·rfl
    ·rfl
    ·rfl
    ·exact k132_
    ·exact yw_
    with_reducible apply At.yield (gr := _)
    ·rfl
    ·rfl
    ·rfl
    ·rfl
    ·rfl
    ·rfl
    ·exact k132_
    ·exact k133_
    ·exact k132_
    ·exact yw_
    ·exact k132_
    ·exact yw_
    ·exact k133_
    ·exact hrec
    ·exact hcf
    ·rfl
    ·rfl
    ·rfl
    intro lb E2 next hE2 hnext
    repeat' (first | refine Ctl.h ?_ | ((with_reducible intro hif); first | (focus (cases hif; done)) | ((try simp only [JH] at hif); try (exfalso; omega))) | ((with_reducible first | apply J22 zh_ za_ | apply J23 fol zh_ za_ | apply J24); (·rfl); (· exact k150_); (try kernel_rfl); try exact yk_) | fail)
    with_reducible apply At.begins hrec
    ·rfl
    with_reducible refine At.code ?_
    repeat' (first | refine Ctl.h ?_ | ((with_reducible intro hif); first | (focus (cases hif; done)) | ((try simp only [JH] at hif); try (exfalso; omega))) | ((with_reducible first | apply J22 zh_ za_ | apply J23 fol zh_ za_ | apply J24); (·rfl); (· exact k150_); (try kernel_rfl); try exact yk_) | fail)
    with_reducible apply At.roundNormal
    ·exact k133_
    apply hnext
    with_reducible apply At.runEnd zh_ za_
    ·rfl
    ·rfl
    ·rfl
    ·exact k132_
    ·exact yw_
    repeat' (first | refine Ctl.h ?_ | ((with_reducible intro hif); first | (focus (cases hif; done)) | ((try simp only [JH] at hif); try (exfalso; omega))) | ((with_reducible first | apply J22 zh_ za_ | apply J23 fol zh_ za_ | apply J24); (·rfl); (· exact k150_); (try kernel_rfl); try exact yk_) | fail)
    with_reducible apply At.itRet .ready
    ·rfl
    ·rfl
    ·intro h; cases h
    apply haft
    intro w1 M1 D1 hA
    dsimp only
    rw [nilOr_t hDe]
    repeat' (first | refine Ctl.h ?_ | ((with_reducible intro hif); first | (focus (cases hif; done)) | ((try simp only [JH] at hif); try (exfalso; omega))) | ((with_reducible first | apply J22 zh_ za_ | apply J23 fol zh_ za_ | apply J24); (·rfl); (· exact k150_); (try kernel_rfl); try exact yk_) | fail)
    apply At.endsPick [0, 1, 2, 3, 4, 19] za_ (fn := Tryz.f14) (rs := [.tmp 12, .tmp 13]) hA hro (lb_ rfl) rfl
    ·exact yi_
    ·exact xf_
    ·rfl
    ·rfl
    ·rfl
    ·exact k29_
    ·rfl
    ·exact k134_
    ·exact zs_
    ·exact fun β => rfl
    ·exact k134_
 ·rw [xk_ rfl] at hr1
  subst hr1
  cases hDe : tr.isEmpty
  ·rw [nilOr_f hDe]
   repeat' (first | refine Ctl.h ?_ | ((with_reducible intro hif); first | (focus (cases hif; done)) | ((try simp only [JH] at hif); try (exfalso; omega))) | ((with_reducible first | apply J22 zh_ za_ | apply J23 fol zh_ za_ | apply J24); (·rfl); (· exact k150_); (try kernel_rfl); try exact yk_) | fail)
   with_reducible apply At.itNormal .ready
   ·rfl
   ·rfl
   ·intro h; cases h
   apply haft
   intro w1 M1 D1 hA
   dsimp only
   rw [nilOr_f hDe]
   repeat' (first | refine Ctl.h ?_ | ((with_reducible intro hif); first | (focus (cases hif; done)) | ((try simp only [JH] at hif); try (exfalso; omega))) | ((with_reducible first | apply J22 zh_ za_ | apply J23 fol zh_ za_ | apply J24); (·rfl); (· exact k150_); (try kernel_rfl); try exact yk_) | fail)
   apply At.endsPick [0, 1, 2, 3, 4, 19] za_ (fn := Tryz.f14) (rs := [.tmp 12, .tmp 13]) hA hro (lb_ rfl) rfl
   ·exact yi_
   ·exact xf_
   ·rfl
   ·rfl
   ·rfl
   ·exact k29_
   ·rfl
   ·exact k134_
   ·exact zs_
   ·exact fun β => rfl
   ·exact k134_
  ·rw [nilOr_t hDe]
   repeat' (first | refine Ctl.h ?_ | ((with_reducible intro hif); first | (focus (cases hif; done)) | ((try simp only [JH] at hif); try (exfalso; omega))) | ((with_reducible first | apply J22 zh_ za_ | apply J23 fol zh_ za_ | apply J24); (·rfl); (· exact k150_); (try kernel_rfl); try exact yk_) | fail)
   with_reducible apply At.itNormal .ready
   ·rfl
   ·rfl
   ·intro h; cases h
   apply haft
   intro w1 M1 D1 hA
   dsimp only
   rw [nilOr_t hDe]
   repeat' (first | refine Ctl.h ?_ | ((with_reducible intro hif); first | (focus (cases hif; done)) | ((try simp only [JH] at hif); try (exfalso; omega))) | ((with_reducible first | apply J22 zh_ za_ | apply J23 fol zh_ za_ | apply J24); (·rfl); (· exact k150_); (try kernel_rfl); try exact yk_) | fail)
   apply At.endsPick [0, 1, 2, 3, 4, 19] za_ (fn := Tryz.f14) (rs := [.tmp 12, .tmp 13]) hA hro (lb_ rfl) rfl
   ·exact yi_
   ·exact xf_
   ·rfl
   ·rfl
   ·rfl
   ·exact k29_
   ·rfl
   ·exact k134_
   ·exact zs_
   ·exact fun β => rfl
   ·exact k134_
end Go.Proofs.YtjliakjbdcplcaaGreat.Vm
end

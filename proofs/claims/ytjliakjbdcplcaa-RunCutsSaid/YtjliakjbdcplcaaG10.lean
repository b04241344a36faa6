import Derived.Test.YtjliakjbdcplcaaG6
import Derived.Test.YtjliakjbdcplcaaG7
import Derived.Test.YtjliakjbdcplcaaG8
import Derived.Test.YtjliakjbdcplcaaG9
section
namespace Go.Proofs.Ytjliakjbdcplcaa.Vm
theorem b48 {P : Prop} (h : P := by simp only [push_cast, ↓JP, Nat.reduceAdd, Nat.reduceEqDiff, Nat.reduceLT, Nat.reduceMul, Nat.reduceLeDiff, reduceCtorEq, reduceIte, ↓JK]; rfl) : P := h
theorem b49 {P : Prop} (h : P := by (repeat' (first | exact trivial | exact .inl rfl | exact .inr (.same _) | exact .inr .loose | exact .inr (.arr (by assumption)) | apply And.intro | (exact .inr (hl0 true))))) : P := h
theorem b50 {P : Prop} (h : P := by (repeat' (first | exact trivial | exact rfl | assumption | exact hst _ _ | exact hst1 _ _ | exact hst2 _ _ | apply Stable.ite | apply And.intro | intro _ | (simp only [Stable, StableL, i64S, prS, insS, sndsS, sndS, stS, evS, macS, mB, cB, sB, eB, prO, prR, pbB, fbB, HB.stable]; done)))) : P := h
theorem b51 {P : Prop} (h : P := by (repeat' (first | exact trivial | exact ⟨_, rfl, fun β => rfl⟩ | apply And.intro))) : P := h
theorem b52 {P : Prop} (h : P := by simp only [push_cast, ↓JP, Nat.reduceAdd, Nat.reduceEqDiff, Nat.reduceLT, Nat.reduceMul, Nat.reduceLeDiff, reduceCtorEq, reduceIte, ↓JK, noDefer, List.drop_zero, List.drop_succ_cons, cRun, JM, engP, prP, macP, nodupN, memN, eB, prO, pbB, fbB, JE, eEnded, eAt, eStep, eState, inR, inN, hst]; rfl) : P := h
theorem b53 {P : Prop} (h : P := by (focus (first | exact True.intro | ((try simp only [JS, implies_true, forall_const, shaped, shapedL, kndOf, inR, inN]); (repeat' (first | assumption | exact True.intro | omega | apply And.intro)); done)))) : P := h
theorem b54 {P : Prop} (h : P := by first | rfl | (simp only [push_cast, ↓JP, Nat.reduceAdd, Nat.reduceEqDiff, Nat.reduceLT, Nat.reduceMul, Nat.reduceLeDiff, reduceCtorEq, reduceIte, ↓JK, noDefer, List.drop_zero, List.drop_succ_cons, cRun, JM, engP, prP, macP, nodupN, memN, eB, prO, pbB, fbB, JE, eEnded, eAt, eStep, eState, inR, inN, hst]; done)) : P := h
theorem b55 {P : Prop} (h : P := by exact ⟨⟨hkf, stepS_good hg hP, by simp [hl], by rw [← hr1, runA_go rfl (by omega) hst]; rfl⟩, by show f.toNat - (k + 1) < f.toNat - k; omega⟩) : P := h
theorem b56 {P : Prop} (h : P := by (repeat' (first | exact trivial | exact rfl | assumption | apply Stable.ite | apply And.intro | intro _ | (simp only [Stable, StableL, i64S, prS, insS, sndsS, sndS, stS, evS, macS, mB, cB, sB, eB, prO, prR, pbB, fbB, HB.stable]; done)))) : P := h
theorem b57 {P : Prop} (h : P := by simp only [push_cast, ↓JP, Nat.reduceAdd, Nat.reduceEqDiff, Nat.reduceLT, Nat.reduceMul, Nat.reduceLeDiff, reduceCtorEq, reduceIte, ↓JK, noDefer, List.drop_zero, List.drop_succ_cons, cRun, JM, engP, prP, macP, nodupN, memN, eB, prO, pbB, fbB, JE, eEnded, eAt, eStep, eState, inR, inN]; rfl) : P := h
theorem b58 {P : Prop} (h : P := by first | rfl | (simp only [push_cast, ↓JP, Nat.reduceAdd, Nat.reduceEqDiff, Nat.reduceLT, Nat.reduceMul, Nat.reduceLeDiff, reduceCtorEq, reduceIte, ↓JK, noDefer, List.drop_zero, List.drop_succ_cons, cRun, JM, engP, prP, macP, nodupN, memN, eB, prO, pbB, fbB, JE, eEnded, eAt, eStep, eState, inR, inN]; done)) : P := h
theorem b59 {P : Prop} (h : P := by (repeat' (first | exact trivial | exact rfl | assumption | apply Stable.ite | apply And.intro | intro _ | (simp only [Stable, StableL, i64S, prS, insS, sndsS, sndS, stS, evS, macS, mB, cB, sB, eB, prO, prR, pbB, fbB, rB, rvS, HB.stable]; done)))) : P := h
theorem b60 {P : Prop} (h : P := by (first | exact True.intro | ((try simp only [JS, implies_true, forall_const, shaped, shapedL, kndOf, inR, inN]); (first | first | omega | exact ⟨hok, hn', hc⟩ | (repeat' (first | assumption | exact True.intro | omega | apply And.intro))); done))) : P := h
theorem b61 {P : Prop} (h : P := by (simp only [push_cast, ↓JP, Nat.reduceAdd, Nat.reduceEqDiff, Nat.reduceLT, Nat.reduceMul, Nat.reduceLeDiff, reduceCtorEq, reduceIte, ↓JK, cRun, sRoG, sSteps, JE, hs0, inR, inN, hE]; rfl)) : P := h
theorem b62 {P : Prop} (h : P := by (simp only [push_cast, ↓JP, Nat.reduceAdd, Nat.reduceEqDiff, Nat.reduceLT, Nat.reduceMul, Nat.reduceLeDiff, reduceCtorEq, reduceIte, ↓JK, JM, engP, prP, macP, nodupN, memN, eB, prO, pbB, fbB, JE, inR, inN]; rfl)) : P := h
theorem b63 {P : Prop} (h : P := by (simp only [push_cast, ↓JP, Nat.reduceAdd, Nat.reduceEqDiff, Nat.reduceLT, Nat.reduceMul, Nat.reduceLeDiff, reduceCtorEq, reduceIte, ↓JK, cRun, JM, engP, prP, macP, nodupN, memN, eB, prO, pbB, fbB, JE, eEnded, eAt, eStep, eState, inR, inN, hst, hkf2]; rfl)) : P := h
theorem b64 {P : Prop} (h : P := by (simp only [push_cast, ↓JP, Nat.reduceAdd, Nat.reduceEqDiff, Nat.reduceLT, Nat.reduceMul, Nat.reduceLeDiff, reduceCtorEq, reduceIte, ↓JK, cRun, JM, engP, prP, macP, nodupN, memN, eB, prO, pbB, fbB, JE, eEnded, eAt, eStep, eState, inR, inN, hst]; rfl)) : P := h
theorem b65 {P : Prop} (h : P := by (simp only [push_cast, ↓JP, Nat.reduceAdd, Nat.reduceEqDiff, Nat.reduceLT, Nat.reduceMul, Nat.reduceLeDiff, reduceCtorEq, reduceIte, ↓JK, cRun, JM, engP, prP, macP, nodupN, memN, eB, prO, pbB, fbB, JE, eEnded, eAt, eStep, eState, inR, inN, hl]; rfl)) : P := h
theorem b66 {P : Prop} (h : P := by (simp only [push_cast, ↓JP, Nat.reduceAdd, Nat.reduceEqDiff, Nat.reduceLT, Nat.reduceMul, Nat.reduceLeDiff, reduceCtorEq, reduceIte, ↓JK, cRun, JM, engP, prP, macP, nodupN, memN, eB, prO, pbB, fbB, JE, eEnded, eAt, eStep, eState, inR, inN]; rfl)) : P := h
end Go.Proofs.Ytjliakjbdcplcaa.Vm
end
section
namespace Go.Proofs.Ytjliakjbdcplcaa.Vm
open Go.RowKit
attribute [local push_cast] runR opG gtmp gval gus opX tmpsOf tm tmO tmP restr look look2 tab tys zs ets eqB eqBL allB numOf ieq Int.cast_ofNat_Int Int.ofNat_zero beq_true beq_false frameOf ev evL ofV opV loadV noW pushF wrsL setH allBorn allGone HB.born HB.isGone HB.val SV.plain dstOk hp nav fitsT SV.size sizeL SV.isAgg TK.size TK.agg bin binE binN binI arN arI cmpN cmpI keq kn narrow callV storeV setp fillV buildV buildSliceV makeV sliceV appendV copyV List.isEmpty_nil srcV evO asN ite_t ite_f ite_bool ite_int ite_nat maxV v_beq v_ble v_blt cond_true cond_false List.getElem?_cons_zero List.getElem?_cons_succ List.getD_cons_zero List.getD_cons_succ List.getD_nil List.length_cons List.length_nil List.take_succ_cons List.take_zero List.set_cons_zero List.set_cons_succ List.cons_append List.nil_append List.append_assoc List.replicate_succ List.replicate_zero Nat.zero_add Nat.add_zero decide_true decide_false Bool.true_and Bool.and_true Bool.false_and Bool.and_false Bool.true_or Bool.or_true Bool.false_or Bool.or_false beq_self_eq_true Bool.or_self Nat.lt_irrefl Nat.not_lt_zero Nat.le_refl Option.getD_some Option.getD_none BEq.rfl Bool.not_true Bool.not_false Bool.cond_true_left Bool.cond_false_right prS sndsS i64S nav_ins nav_ins0 nav_ins1 nav_ins2 nav_ins3 nav_ins4 nav_snd nav_snd0 nav_snd1 nav_snd2 isIns_insS insOf_insS isSnd_sndS sndOf_sndS isI_int isI_nat iOf
set_option linter.unusedVariables false
set_option linter.unusedSimpArgs false
set_option maxRecDepth 100000
set_option maxHeartbeats 4000000
def cRb : FuncId → Option Spec := look2 [(47, sRRight), (24, sBegin), (45, sOnB)]
theorem cRb_ok : ∀ f S, cRb f = some S → CallOk Try.prog f S := allOk_spec ⟨sRRight_ok, sBegin_ok, sOnB_ok, trivial⟩
theorem rop_bad (P : List Ins) (v : Evi) (t s q o y d f : Int) (cs : List Int) (p1 p2 : Nat) (hP : ∀ x ∈ P, x.ok) (hn : P.length ≤ 1000000) (hc : cs.length ≤ 1000000) (hE : ropE P v (begS y t s cs d) f ≠ 0) : LitOk Try.prog 51 [.sl 1 2 [] 5 0 P.length (some p1), .agg [.int .u64 v.seed, .int .i64 v.process, .int .i64 v.ports, .int .i64 v.look, .int .i64 v.now], .agg [.agg [.int .i64 t, .int .i64 s, .int .i64 q], .int .i64 o, .int .i64 y], .sl 3 4 [] 1 0 cs.length (some p2), .int .i64 d, .int .i64 f]
    [.gone, .gone, .ro (.arr P.length 5 (prS P)), .gone, .ro (.arr cs.length 1 (i64S cs))]
    (.tup [.nilp, .int .i64 (ropE P v (begS y t s cs d) f)]) [.gone] := by
  by_cases hr : rrE f = 0
  · have e : ropE P v (begS y t s cs d) f = openE P v (begS y t s cs d) := by unfold ropE; rw [if_pos hr]
    rw [e] at hE ⊢
    refine litOkM (fn := Try.f51) 5 29 0 rfl rfl rfl rfl rfl (by simp only [StableL, Stable, hp, i64S, prS, insS, sndsS, sndS, stS, evS, macS, mB, cB, sB, eB, prO, prR, HB.stable]; simp [HB.born]) rfl fun w0 M E hro => ?_
    repeat' (first | with_reducible (first | apply J1 | apply J3 | apply J4 | apply J5 | apply J6 | apply J7 | apply J8 | apply J9 | apply J10 | apply J11 | apply J12 | apply J13 | apply J14 | apply J15 | apply J16 | apply J17 | apply J18 | apply J19 | apply J20 | refine J2 ?_) | ((with_reducible apply J21); (· rfl)) | ((with_reducible intro hif); first | (focus (cases hif; done)) | (simp only [JH] at hif; try (exfalso; omega)) | (try (exfalso; omega))) | ((first | ((with_reducible apply J22 cRb_ok tab_ok); (· rfl)) | ((with_reducible apply J23 fol cRb_ok tab_ok); (· rfl)) | with_reducible apply J24); (· (simp only [push_cast, ↓JP, Nat.reduceAdd, Nat.reduceEqDiff, Nat.reduceLT, Nat.reduceMul, Nat.reduceLeDiff, reduceCtorEq, reduceIte, ↓JK, cRb, sRRight, sBegin, sOnB, JE, JB, inR, inN, hr, hE]; rfl)); (try kernel_rfl); (try exact Vm.b43)) | fail)
    apply At.endsRet tab_ok (fn := Try.f51) (rs := [.tmp 12, .tmp 13]) Anc.refl hro (Nat.le_of_ble_eq_true rfl) rfl
    · exact Vm.b12
    · exact Vm.b6
    · exact Vm.b7
    · rfl
    · exact Vm.b41
    · exact Vm.b9
    · exact fun β => rfl
    · exact Vm.b41
  · have e : ropE P v (begS y t s cs d) f = rrE f := by unfold ropE; rw [if_neg hr]
    rw [e]
    refine litOkM (fn := Try.f51) 5 29 0 rfl rfl rfl rfl rfl (by simp only [StableL, Stable, hp, i64S, prS, insS, sndsS, sndS, stS, evS, macS, mB, cB, sB, eB, prO, prR, HB.stable]; simp [HB.born]) rfl fun w0 M E hro => ?_
    repeat' (first | with_reducible (first | apply J1 | apply J3 | apply J4 | apply J5 | apply J6 | apply J7 | apply J8 | apply J9 | apply J10 | apply J11 | apply J12 | apply J13 | apply J14 | apply J15 | apply J16 | apply J17 | apply J18 | apply J19 | apply J20 | refine J2 ?_) | ((with_reducible apply J21); (· rfl)) | ((with_reducible intro hif); first | (focus (cases hif; done)) | (simp only [JH] at hif; try (exfalso; omega)) | (try (exfalso; omega))) | ((first | ((with_reducible apply J22 cRb_ok tab_ok); (· rfl)) | ((with_reducible apply J23 fol cRb_ok tab_ok); (· rfl)) | with_reducible apply J24); (· (simp only [push_cast, ↓JP, Nat.reduceAdd, Nat.reduceEqDiff, Nat.reduceLT, Nat.reduceMul, Nat.reduceLeDiff, reduceCtorEq, reduceIte, ↓JK, cRb, sRRight, sBegin, sOnB, JE, JB, inR, inN, hr]; rfl)); (try kernel_rfl); (try exact Vm.b43)) | fail)
    apply At.endsRet tab_ok (fn := Try.f51) (rs := [.tmp 12, .tmp 13]) Anc.refl hro (Nat.le_of_ble_eq_true rfl) rfl
    · exact Vm.b12
    · exact Vm.b6
    · exact Vm.b7
    · rfl
    · exact Vm.b41
    · exact Vm.b9
    · exact fun β => rfl
    · exact Vm.b41
def sRoG : Spec := fun args h m => match args with
  | [v1, .agg [v2, v3, v4, v5, v6], .agg [.agg [v7, v8, v9], v10, v11], v12, v13, v14] => match srcV h 5 (.tup []) v1, srcV h 1 (.tup []) v12 with
    | some (c1, n1, f1, r1), some (c12, n12, f12, r12) => bif isI .u64 v2 && isI .i64 v3 && isI .i64 v4 && isI .i64 v5 && isI .i64 v6 && isI .i64 v7 && isI .i64 v8 && isI .i64 v9 && isI .i64 v10 && isI .i64 v11 && isI .i64 v13 && isI .i64 v14 then some (c1 ∧ c12 ∧ (∀ q, q < n1 → isIns (f1 q) = true) ∧ (∀ q, q < n12 → isI .i64 (f12 q) = true) ∧ ((∀ x ∈ (ls insOf n1 f1), x.ok)) ∧ (n1 ≤ 1000000) ∧ (n12 ≤ 1000000) ∧ (ropE (ls insOf n1 f1) ⟨(iOf v2), (iOf v3), (iOf v4), (iOf v5), (iOf v6)⟩ (begS (iOf v11) (iOf v7) (iOf v8) (ls iOf n12 f12) (iOf v13)) (iOf v14) = 0), .tup [.ptr m [], .int .i64 0], r1 ++ r12, [(m, eB (m + 1) (m + 4) (ls insOf n1 f1).length), (m + 1, mB (begS (iOf v11) (iOf v7) (iOf v8) (ls iOf n12 f12) (iOf v13)) ⟨(iOf v2), (iOf v3), (iOf v4), (iOf v5), (iOf v6)⟩ Ins0 (m + 2) (m + 3)), (m + 2, cB (begS (iOf v11) (iOf v7) (iOf v8) (ls iOf n12 f12) (iOf v13))), (m + 3, sB (begS (iOf v11) (iOf v7) (iOf v8) (ls iOf n12 f12) (iOf v13))), (m + 4, prO (ls insOf n1 f1))]) else none
    | _, _ => none
  | _ => none
theorem sRoG_ok : CallOk Try.prog 51 sRoG := by
  refine ⟨named_spec (by kernel_rfl), fun args h m c v rd wr hs hm hc w0 M β h' w R hrd hwr hst => ?_⟩
  unfold sRoG at hs
  split at hs
  · rename_i v1 v2 v3 v4 v5 v6 v7 v8 v9 v10 v11 v12 v13 v14
    split at hs
    · rename_i c1 n1 f1 r1 c12 n12 f12 r12 a1 a12
      obtain ⟨hb, hs⟩ := bif_some hs
      simp only [Option.some.injEq, Prod.mk.injEq] at hs
      obtain ⟨rfl, rfl, rfl, rfl⟩ := hs
      simp only [Bool.and_eq_true] at hb
      obtain ⟨⟨⟨⟨⟨⟨⟨⟨⟨⟨⟨b2, b3⟩, b4⟩, b5⟩, b6⟩, b7⟩, b8⟩, b9⟩, b10⟩, b11⟩, b13⟩, b14⟩ := hb
      obtain ⟨k1, k12, g1, g12, y1, y2, y3, y4⟩ := hc
      obtain ⟨A1, p1, d1, e1, t1⟩ := reads_src R a1 k1 (fun i hi => hrd i (List.mem_append_left _ hi)) (by omega)
      obtain ⟨A12, p12, d12, e12, t12⟩ := reads_src R a12 k12 (fun i hi => hrd i (List.mem_append_right _ hi)) (by omega)
      refine callRo (views := [⟨5, (ls insOf n1 f1).length, prS (ls insOf n1 f1), A1, p1⟩, ⟨1, (ls iOf n12 f12).length, i64S (ls iOf n12 f12), A12, p12⟩]) (rop_good (ls insOf n1 f1) ⟨(iOf v2), (iOf v3), (iOf v4), (iOf v5), (iOf v6)⟩ (iOf v7) (iOf v8) (iOf v9) (iOf v10) (iOf v11) (iOf v13) (iOf v14) (ls iOf n12 f12) p1 p12 y1 (by rw [ls_length]; exact y2) (by rw [ls_length]; exact y3) y4) ?_ R hm hwr ?_ ?_ ?_
      · intro x hx
        simp only [List.mem_cons, List.not_mem_nil, or_false] at hx
        rcases hx with rfl | rfl
        · exact viewIns t1 e1 g1
        · exact viewI64 t12 e12 g12
      · intro β1 hv
        simp only [Vd, ls_length, and_true] at hv
        obtain ⟨z1, z12⟩ := hv
        simp only [denL, aggDen, intDen, natDen, boolDen, ls_length, z1, z12, d1, d12, isI_den b2, isI_den b3, isI_den b4, isI_den b5, isI_den b6, isI_den b7, isI_den b8, isI_den b9, isI_den b10, isI_den b11, isI_den b13, isI_den b14]
      · exact Vm.b41
      · exact Vm.b41
    · cases hs
  · cases hs
def sRoB : Spec := fun args h m => match args with
  | [v1, .agg [v2, v3, v4, v5, v6], .agg [.agg [v7, v8, v9], v10, v11], v12, v13, v14] => match srcV h 5 (.tup []) v1, srcV h 1 (.tup []) v12 with
    | some (c1, n1, f1, r1), some (c12, n12, f12, r12) => bif isI .u64 v2 && isI .i64 v3 && isI .i64 v4 && isI .i64 v5 && isI .i64 v6 && isI .i64 v7 && isI .i64 v8 && isI .i64 v9 && isI .i64 v10 && isI .i64 v11 && isI .i64 v13 && isI .i64 v14 then some (c1 ∧ c12 ∧ (∀ q, q < n1 → isIns (f1 q) = true) ∧ (∀ q, q < n12 → isI .i64 (f12 q) = true) ∧ ((∀ x ∈ (ls insOf n1 f1), x.ok)) ∧ (n1 ≤ 1000000) ∧ (n12 ≤ 1000000) ∧ (ropE (ls insOf n1 f1) ⟨(iOf v2), (iOf v3), (iOf v4), (iOf v5), (iOf v6)⟩ (begS (iOf v11) (iOf v7) (iOf v8) (ls iOf n12 f12) (iOf v13)) (iOf v14) ≠ 0), .tup [.nilp, .int .i64 (ropE (ls insOf n1 f1) ⟨(iOf v2), (iOf v3), (iOf v4), (iOf v5), (iOf v6)⟩ (begS (iOf v11) (iOf v7) (iOf v8) (ls iOf n12 f12) (iOf v13)) (iOf v14))], r1 ++ r12, []) else none
    | _, _ => none
  | _ => none
theorem sRoB_ok : CallOk Try.prog 51 sRoB := by
  refine ⟨named_spec (by kernel_rfl), fun args h m c v rd wr hs hm hc w0 M β h' w R hrd hwr hst => ?_⟩
  unfold sRoB at hs
  split at hs
  · rename_i v1 v2 v3 v4 v5 v6 v7 v8 v9 v10 v11 v12 v13 v14
    split at hs
    · rename_i c1 n1 f1 r1 c12 n12 f12 r12 a1 a12
      obtain ⟨hb, hs⟩ := bif_some hs
      simp only [Option.some.injEq, Prod.mk.injEq] at hs
      obtain ⟨rfl, rfl, rfl, rfl⟩ := hs
      simp only [Bool.and_eq_true] at hb
      obtain ⟨⟨⟨⟨⟨⟨⟨⟨⟨⟨⟨b2, b3⟩, b4⟩, b5⟩, b6⟩, b7⟩, b8⟩, b9⟩, b10⟩, b11⟩, b13⟩, b14⟩ := hb
      obtain ⟨k1, k12, g1, g12, y1, y2, y3, y4⟩ := hc
      obtain ⟨A1, p1, d1, e1, t1⟩ := reads_src R a1 k1 (fun i hi => hrd i (List.mem_append_left _ hi)) (by omega)
      obtain ⟨A12, p12, d12, e12, t12⟩ := reads_src R a12 k12 (fun i hi => hrd i (List.mem_append_right _ hi)) (by omega)
      refine callRo (views := [⟨5, (ls insOf n1 f1).length, prS (ls insOf n1 f1), A1, p1⟩, ⟨1, (ls iOf n12 f12).length, i64S (ls iOf n12 f12), A12, p12⟩]) (rop_bad (ls insOf n1 f1) ⟨(iOf v2), (iOf v3), (iOf v4), (iOf v5), (iOf v6)⟩ (iOf v7) (iOf v8) (iOf v9) (iOf v10) (iOf v11) (iOf v13) (iOf v14) (ls iOf n12 f12) p1 p12 y1 (by rw [ls_length]; exact y2) (by rw [ls_length]; exact y3) y4) ?_ R hm hwr ?_ ?_ ?_
      · intro x hx
        simp only [List.mem_cons, List.not_mem_nil, or_false] at hx
        rcases hx with rfl | rfl
        · exact viewIns t1 e1 g1
        · exact viewI64 t12 e12 g12
      · intro β1 hv
        simp only [Vd, ls_length, and_true] at hv
        obtain ⟨z1, z12⟩ := hv
        simp only [denL, aggDen, intDen, natDen, boolDen, ls_length, z1, z12, d1, d12, isI_den b2, isI_den b3, isI_den b4, isI_den b5, isI_den b6, isI_den b7, isI_den b8, isI_den b9, isI_den b10, isI_den b11, isI_den b13, isI_den b14]
      · exact Vm.b41
      · exact Vm.b41
    · cases hs
  · cases hs
end Go.Proofs.Ytjliakjbdcplcaa.Vm
end

section
namespace Go.Proofs.Ytjliakjbdcplcaa.Vm
open Go.RowKit
set_option linter.unusedVariables false
set_option linter.unusedSimpArgs false
set_option maxRecDepth 100000
def PickF (σ : Nat → Nat) (φ : Fr) : Fr → Prop
  | [] => True
  | p :: l => (∃ u, look φ p.1 = some u ∧ ∀ β, u.den β = (p.2.ren σ).den β) ∧ PickF σ φ l
theorem pickF_spec {σ : Nat → Nat} {φ : Fr} : ∀ {φ2 : Fr}, PickF σ φ φ2 → ∀ p ∈ φ2, ∃ u, look φ p.1 = some u ∧ ∀ β, u.den β = (p.2.ren σ).den β
  | [], _, p, hp => by cases hp
  | q :: l, h, p, hp => by
    rcases List.mem_cons.1 hp with rfl | hp
    · exact h.1
    · exact pickF_spec h.2 p hp
section
variable {w0 : World} {M : Nat → Prop} {E : Env} {n0 N : Nat} {D : List Deferred} {φ φ2 : Fr} {L L2 : List HB}
theorem St.pick {a : Act} {w : World} (l : List Nat) (h : St w0 M E n0 N D φ L a w) (h00 : l.getD 0 0 = 0) (hz : hp L2 0 = .gone) (hid : idTo n0 l = true) (hpk : PickL (sg l) (hp L) L2 l) (hinj : injL L2 l [] = true) (hs : StableH (hp L2) L2) (hφ : PickF (sg l) φ φ2) (hf : StableF (hp L2) φ2) (hb : bornTo n0 L2 = true) : St w0 M E n0 N D φ2 L2 a w := by
  obtain ⟨⟨β, hE, R, F⟩, _, h3, h4⟩ := h
  refine ⟨⟨fun i => β (sg l i), fun i hi => ?_, R.pick h00 hz hpk hinj hs, fun t v hv => ?_⟩, fun i hi => ?_, h3, h4⟩
  · simp only [idTo, List.all_eq_true] at hid
    have e := Nat.eq_of_beq_eq_true (hid i (List.mem_range.2 hi))
    show β (l.getD i 0) = E i
    rw [e]; exact hE i hi
  · have hm := look_mem hv
    obtain ⟨u, h1, h2⟩ := pickF_spec hφ _ hm
    have hst := stableF_spec hf _ hm
    refine ⟨hst, ?_⟩
    rw [(F t u h1).2, h2]
    exact den_ren (h := hp L2) (fun _ _ => rfl) hst
  · simp only [bornTo, List.all_eq_true] at hb
    exact hb i (List.mem_range.2 hi)
theorem At.nextPick {α : Type} {p : α → Prop} {φi : α → Fr} {Li : α → List HB} (l : List Nat) (y : α) (hy : p y) (h00 : l.getD 0 0 = 0) (hz : hp (Li y) 0 = .gone) (hid : idTo n0 l = true) (hpk : PickL (sg l) (hp L) (Li y) l) (hinj : injL (Li y) l [] = true) (hs : StableH (hp (Li y)) (Li y)) (hφ : PickF (sg l) φ (φi y)) (hf : StableF (hp (Li y)) (φi y)) (hb : bornTo n0 (Li y) = true) : At w0 M E n0 N D φ L (fun a w => ∃ y, p y ∧ St w0 M E n0 N D (φi y) (Li y) a w) :=
  fun a w hS => ⟨y, hy, hS.pick l h00 hz hid hpk hinj hs hφ hf hb⟩
theorem At.pick {K : Act → World → Prop} (l : List Nat) (h00 : l.getD 0 0 = 0) (hz : hp L2 0 = .gone) (hid : idTo n0 l = true) (hpk : PickL (sg l) (hp L) L2 l) (hinj : injL L2 l [] = true) (hs : StableH (hp L2) L2) (hφ : PickF (sg l) φ φ2) (hf : StableF (hp L2) φ2) (hb : bornTo n0 L2 = true) (h : At w0 M E n0 N D φ2 L2 K) : At w0 M E n0 N D φ L K :=
  fun a w hS => h a w (hS.pick l h00 hz hid hpk hinj hs hφ hf hb)
end
end Go.Proofs.Ytjliakjbdcplcaa.Vm
end

section
namespace Go.Proofs.Ytjliakjbdcplcaa.Vm
open Go.RowKit
attribute [local push_cast] runR opG gtmp gval gus opX tmpsOf tm tmO tmP restr look look2 tab tys zs ets eqB eqBL allB numOf ieq Int.cast_ofNat_Int Int.ofNat_zero beq_true beq_false frameOf ev evL ofV opV loadV noW pushF wrsL setH allBorn allGone HB.born HB.isGone HB.val SV.plain dstOk hp nav fitsT SV.size sizeL SV.isAgg TK.size TK.agg bin binE binN binI arN arI cmpN cmpI keq kn narrow callV storeV setp fillV buildV buildSliceV makeV sliceV appendV copyV List.isEmpty_nil srcV evO asN ite_t ite_f ite_bool ite_int ite_nat maxV v_beq v_ble v_blt cond_true cond_false List.getElem?_cons_zero List.getElem?_cons_succ List.getD_cons_zero List.getD_cons_succ List.getD_nil List.length_cons List.length_nil List.take_succ_cons List.take_zero List.set_cons_zero List.set_cons_succ List.cons_append List.nil_append List.append_assoc List.replicate_succ List.replicate_zero Nat.zero_add Nat.add_zero decide_true decide_false Bool.true_and Bool.and_true Bool.false_and Bool.and_false Bool.true_or Bool.or_true Bool.false_or Bool.or_false beq_self_eq_true Bool.or_self Nat.lt_irrefl Nat.not_lt_zero Nat.le_refl Option.getD_some Option.getD_none BEq.rfl Bool.not_true Bool.not_false Bool.cond_true_left Bool.cond_false_right prS sndsS i64S nav_ins nav_ins0 nav_ins1 nav_ins2 nav_ins3 nav_ins4 nav_snd nav_snd0 nav_snd1 nav_snd2 isIns_insS insOf_insS isSnd_sndS sndOf_sndS isI_int isI_nat iOf
set_option linter.unusedVariables false
set_option linter.unusedSimpArgs false
set_option maxRecDepth 100000
set_option maxHeartbeats 4000000
def cRun : FuncId → Option Spec := look2 [(51, sRoG), (48, sSteps), (74, eEnded), (75, eAt), (76, eStep), (49, eState)]
theorem cRun_ok : ∀ f S, cRun f = some S → CallOk Try.prog f S := allOk_spec ⟨sRoG_ok, sSteps_ok, eEnded_ok, eAt_ok, eStep_ok, eState_ok, trivial⟩
structure RS where
  k : Nat
  s : Sta
  x : Ins
  tr : List Int
  a : Int
structure RInv (P : List Ins) (v : Evi) (f : Int) (r : RR) (y : RS) : Prop where
  k : y.k ≤ f.toNat
  g : SG P y.s
  l : y.tr.length = y.k
  r : runA P v (f.toNat - y.k) y.s y.x y.tr y.a = r
theorem less_res {t : Nat} {ex : Bool} {w : SV} {u d : SV} : Less (.own t (.agg [.nat .i64 0, .nat .i64 0, w, u, d]) ex) (.own t (.agg [.nat .i64 0, .int .i64 0, w, u, d]) ex) :=
  .val (fun β => rfl) (fun n k f e => by cases e) (fun n k f e => by cases e)
theorem Run_good (P : List Ins) (v : Evi) (t s q o y d f : Int) (cs : List Int) (p1 p2 : Nat) (hP : PG P) (V : VOk v) (hc : cs.length ≤ 1000000) (hE : ropE P v (begS y t s cs d) f = 0) (r : RR) (hr : runA P v f.toNat (begS y t s cs d) Ins0 [] 0 = r) (hb : r.bad = 0) : LitOk Try.prog 29 [.sl 1 2 [] 5 0 P.length (some p1), .agg [.int .u64 v.seed, .int .i64 v.process, .int .i64 v.ports, .int .i64 v.look, .int .i64 v.now], .agg [.agg [.int .i64 t, .int .i64 s, .int .i64 q], .int .i64 o, .int .i64 y], .sl 3 4 [] 1 0 cs.length (some p2), .int .i64 d, .int .i64 f]
    [.gone, .gone, .ro (.arr P.length 5 (prS P)), .gone, .ro (.arr cs.length 1 (i64S cs))]
    (.tup [.agg [.nat .i64 r.tr.length, .int .i64 r.at_, .sl 5 5 [] 1 0 r.s.cells.length none, .int .i64 r.s.draws, .sl 6 6 [] 3 0 r.s.sends.length none], .int .i64 0]) [.gone, .gone, .gone, .gone, .gone, cB r.s, sB r.s] := by
  have hok := hP.ok
  have hn := hP.len
  have hn' : P.length ≤ 1000000 := by omega
  have hf := (ropE_zero hE).1
  have hO := openE_zero (ropE_zero hE).2
  have hG : SG P (begS y t s cs d) := SG.of hO.2.2 (by simp [begS])
  obtain ⟨s0, hs0⟩ : ∃ s0, begS y t s cs d = s0 := ⟨_, rfl⟩
  rw [hs0] at hE hr hG
  have hl0 : ∀ ex, Less (.own 45 (.agg [.nat .i64 0, .nat .i64 0, .sl 0 0 [] 0 0 0 (some 0), .nat .i64 0, .sl 0 0 [] 0 0 0 (some 0)]) ex) (.own 45 (.agg [.nat .i64 0, .int .i64 0, .sl 0 0 [] 0 0 0 (some 0), .nat .i64 0, .sl 0 0 [] 0 0 0 (some 0)]) ex) := fun ex => less_res
  have hl1 := hl0 true
  refine litOkM (fn := Try.f29) 5 66 0 rfl rfl rfl rfl rfl (by simp only [StableL, Stable, hp, i64S, prS, insS, sndsS, sndS, stS, evS, macS, mB, cB, sB, eB, prO, prR, pbB, fbB, HB.stable]; simp [HB.born]) rfl fun w0 M E hro => ?_
  repeat' (first | with_reducible (first | apply J1 | apply J3 | apply J4 | apply J5 | apply J6 | apply J7 | apply J8 | apply J9 | apply J10 | apply J11 | apply J12 | apply J13 | apply J14 | apply J15 | apply J16 | apply J17 | apply J18 | apply J19 | apply J20 | refine J2 ?_) | ((with_reducible apply J21); (· rfl)) | ((with_reducible intro hif); first | (focus (cases hif; done)) | (simp only [JH] at hif; try (exfalso; omega)) | (try (exfalso; omega))) | ((first | ((with_reducible apply J22 cRun_ok tab_ok); (· rfl)) | ((with_reducible apply J23 fol cRun_ok tab_ok); (· rfl)) | with_reducible apply J24); (· exact Vm.b61); (try kernel_rfl); (try exact Vm.b60)) | fail)
  with_reducible apply WF.range (fn' := Try.f73) 28
  · exact Vm.b48
  · exact Vm.b14
  · rfl
  · rfl
  · rfl
  · rfl
  · rfl
  · rfl
  · rfl
  intro E1 rec tmps after hE1 hrec hcf haft
  repeat' (first | with_reducible (first | apply J1 | apply J3 | apply J4 | apply J5 | apply J6 | apply J7 | apply J8 | apply J9 | apply J10 | apply J11 | apply J12 | apply J13 | apply J14 | apply J15 | apply J16 | apply J17 | apply J18 | apply J19 | apply J20 | refine J2 ?_) | ((with_reducible apply J21); (· rfl)) | ((with_reducible intro hif); first | (focus (cases hif; done)) | (simp only [JH] at hif; try (exfalso; omega)) | (try (exfalso; omega))) | ((first | ((with_reducible apply J22 cRun_ok tab_ok); (· rfl)) | ((with_reducible apply J23 fol cRun_ok tab_ok); (· rfl)) | with_reducible apply J24); (· exact Vm.b62); (try kernel_rfl); (try exact Vm.b21)) | fail)
  refine At.pick (L2 := [.gone, .gone, .ro (.arr P.length 5 (prS P)), .gone, .ro (.arr cs.length 1 (i64S cs)), .gone, .gone, .own 45 (.agg [.nat .i64 0, .nat .i64 0, .sl 0 0 [] 0 0 0 (some 0), .nat .i64 0, .sl 0 0 [] 0 0 0 (some 0)]) true, eB 9 12 P.length, mB s0 v Ins0 10 19, cB s0, .gone, prO P, .own 46 (.int .i64 0) true, .own 45 (.agg [.nat .i64 0, .int .i64 0, .sl 0 0 [] 0 0 0 (some 0), .nat .i64 0, .sl 0 0 [] 0 0 0 (some 0)]) true, pbB 8, fbB f, .raw (.deferred (some [])), .raw (.loop (rec .ready none)), sB s0]) (φ2 := [(0, .yl 18), (1, .ptr 15 []), (2, .ptr 16 []), (4, .nat .i64 0)]) [0, 1, 2, 3, 4, 5, 6, 7, 8, 9, 10, 11, 12, 13, 14, 15, 16, 17, 18, 11] rfl rfl rfl ?_ rfl ?_ ?_ ?_ rfl ?_
  · exact Vm.b49
  · exact Vm.b50
  · exact Vm.b51
  · exact Vm.b50
  refine WF.loopAt (fun (z : RS) => RInv P v f r z) (fun (z : RS) => [(0, .yl 18), (1, .ptr 15 []), (2, .ptr 16 []), (4, .nat .i64 z.k)]) (fun (z : RS) => [.gone, .gone, .ro (.arr P.length 5 (prS P)), .gone, .ro (.arr cs.length 1 (i64S cs)), .gone, .gone, .own 45 (.agg [.nat .i64 0, .nat .i64 0, .sl 0 0 [] 0 0 0 (some 0), .nat .i64 0, .sl 0 0 [] 0 0 0 (some 0)]) true, eB 9 12 P.length, mB z.s v z.x 10 19, cB z.s, .gone, prO P, .own 46 (.int .i64 0) true, .own 45 (.agg [.nat .i64 z.k, .int .i64 z.a, .sl 0 0 [] 0 0 0 (some 0), .nat .i64 0, .sl 0 0 [] 0 0 0 (some 0)]) true, pbB 8, fbB f, .raw (.deferred (some [])), .raw (.loop (rec .ready none)), sB z.s]) (fun (z : RS) => f.toNat - z.k) ⟨0, s0, Ins0, [], 0⟩ ⟨Nat.zero_le _, hG, rfl, hr⟩ ?_ ?_ rfl ?_ ?_ rfl ?_
  · exact Vm.b10
  · exact Vm.b7
  · exact Vm.b50
  · exact Vm.b50
  rintro ⟨k, ⟨at1, en, rg, ce, dr, se⟩, x, tr, a⟩ ⟨hk, hg, hl, hr1⟩
  dsimp only at hk hg hl hr1 ⊢
  cases en
  · have hkf : k < f.toNat := by
      rcases Nat.lt_or_ge k f.toNat with h | h
      · exact h
      · exfalso
        have e0 : f.toNat - k = 0 := by omega
        rw [e0, runA_zero rfl] at hr1
        rw [← hr1] at hb
        cases hb
    have hst : stepE P v ⟨at1, false, rg, ce, dr, se⟩ = 0 := by
      by_cases h : stepE P v ⟨at1, false, rg, ce, dr, se⟩ = 0
      · exact h
      · rw [runA_bad rfl (by omega) h] at hr1
        rw [← hr1] at hb
        exact absurd hb h
    have hkf2 : (k : Int) < f := by omega
    repeat' (first | with_reducible (first | apply J1 | apply J3 | apply J4 | apply J5 | apply J6 | apply J7 | apply J8 | apply J9 | apply J10 | apply J11 | apply J12 | apply J13 | apply J14 | apply J15 | apply J16 | apply J17 | apply J18 | apply J19 | apply J20 | refine J2 ?_) | ((with_reducible apply J21); (· rfl)) | ((with_reducible intro hif); first | (focus (cases hif; done)) | (simp only [JH] at hif; try (exfalso; omega)) | (try (exfalso; omega))) | ((first | ((with_reducible apply J22 cRun_ok tab_ok); (· rfl)) | ((with_reducible apply J23 fol cRun_ok tab_ok); (· rfl)) | with_reducible apply J24); (· exact Vm.b63); (try kernel_rfl); (try exact Vm.b21)) | fail)
    with_reducible apply WF.split 3 5
    · rfl
    with_reducible apply At.run cRun_ok tab_ok
    · rfl
    · rfl
    · rfl
    · exact Vm.b52
    · exact Vm.b53
    with_reducible apply At.yield (gr := _)
    · rfl
    · rfl
    · rfl
    · rfl
    · rfl
    · rfl
    · exact Vm.b52
    · exact Vm.b54
    · exact Vm.b52
    · exact Vm.b53
    · exact Vm.b52
    · exact Vm.b53
    · exact Vm.b54
    · exact hrec
    · exact hcf
    · rfl
    · rfl
    · rfl
    intro lb E2 next hE2 hnext
    repeat' (first | with_reducible (first | apply J1 | apply J3 | apply J4 | apply J5 | apply J6 | apply J7 | apply J8 | apply J9 | apply J10 | apply J11 | apply J12 | apply J13 | apply J14 | apply J15 | apply J16 | apply J17 | apply J18 | apply J19 | apply J20 | refine J2 ?_) | ((with_reducible apply J21); (· rfl)) | ((with_reducible intro hif); first | (focus (cases hif; done)) | (simp only [JH] at hif; try (exfalso; omega)) | (try (exfalso; omega))) | ((first | ((with_reducible apply J22 cRun_ok tab_ok); (· rfl)) | ((with_reducible apply J23 fol cRun_ok tab_ok); (· rfl)) | with_reducible apply J24); (· exact Vm.b64); (try kernel_rfl); (try exact Vm.b21)) | fail)
    with_reducible apply At.begins hrec
    · rfl
    with_reducible refine At.code ?_
    repeat' (first | with_reducible (first | apply J1 | apply J3 | apply J4 | apply J5 | apply J6 | apply J7 | apply J8 | apply J9 | apply J10 | apply J11 | apply J12 | apply J13 | apply J14 | apply J15 | apply J16 | apply J17 | apply J18 | apply J19 | apply J20 | refine J2 ?_) | ((with_reducible apply J21); (· rfl)) | ((with_reducible intro hif); first | (focus (cases hif; done)) | (simp only [JH] at hif; try (exfalso; omega)) | (try (exfalso; omega))) | ((first | ((with_reducible apply J22 cRun_ok tab_ok); (· rfl)) | ((with_reducible apply J23 fol cRun_ok tab_ok); (· rfl)) | with_reducible apply J24); (· exact Vm.b64); (try kernel_rfl); (try exact Vm.b21)) | fail)
    with_reducible apply At.roundNormal
    · exact Vm.b54
    apply hnext
    with_reducible apply At.runEnd cRun_ok tab_ok
    · rfl
    · rfl
    · rfl
    · exact Vm.b52
    · exact Vm.b53
    repeat' (first | with_reducible (first | apply J1 | apply J3 | apply J4 | apply J5 | apply J6 | apply J7 | apply J8 | apply J9 | apply J10 | apply J11 | apply J12 | apply J13 | apply J14 | apply J15 | apply J16 | apply J17 | apply J18 | apply J19 | apply J20 | refine J2 ?_) | ((with_reducible apply J21); (· rfl)) | ((with_reducible intro hif); first | (focus (cases hif; done)) | (simp only [JH] at hif; try (exfalso; omega)) | (try (exfalso; omega))) | ((first | ((with_reducible apply J22 cRun_ok tab_ok); (· rfl)) | ((with_reducible apply J23 fol cRun_ok tab_ok); (· rfl)) | with_reducible apply J24); (· exact Vm.b64); (try kernel_rfl); (try exact Vm.b21)) | fail)
    refine At.nextPick [0, 1, 2, 3, 4, 5, 6, 7, 8, 9, 10, 11, 12, 13, 14, 15, 16, 17, 18, 20] ⟨k + 1, stepS P v ⟨at1, false, rg, ce, dr, se⟩, stepX P ⟨at1, false, rg, ce, dr, se⟩ x, tr ++ [at1], at1⟩ ?_ rfl rfl rfl ?_ rfl ?_ ?_ ?_ rfl
    · exact Vm.b55
    · exact Vm.b31
    · exact Vm.b50
    · exact Vm.b51
    · exact Vm.b50
  · rw [runA_end rfl] at hr1
    subst hr1
    have hcl := hg.c1
    have hsl := hg.n1
    dsimp only at hcl hsl
    have hcl2 : ce.length ≤ 1000000 := by omega
    repeat' (first | with_reducible (first | apply J1 | apply J3 | apply J4 | apply J5 | apply J6 | apply J7 | apply J8 | apply J9 | apply J10 | apply J11 | apply J12 | apply J13 | apply J14 | apply J15 | apply J16 | apply J17 | apply J18 | apply J19 | apply J20 | refine J2 ?_) | ((with_reducible apply J21); (· rfl)) | ((with_reducible intro hif); first | (focus (cases hif; done)) | (simp only [JH] at hif; try (exfalso; omega)) | (try (exfalso; omega))) | ((first | ((with_reducible apply J22 cRun_ok tab_ok); (· rfl)) | ((with_reducible apply J23 fol cRun_ok tab_ok); (· rfl)) | with_reducible apply J24); (· exact Vm.b65); (try kernel_rfl); (try exact Vm.b21)) | fail)
    with_reducible apply At.itNormal .ready
    · rfl
    · rfl
    · intro h; cases h
    apply haft
    intro w1 M1 D1 hA
    dsimp only
    repeat' (first | with_reducible (first | apply J1 | apply J3 | apply J4 | apply J5 | apply J6 | apply J7 | apply J8 | apply J9 | apply J10 | apply J11 | apply J12 | apply J13 | apply J14 | apply J15 | apply J16 | apply J17 | apply J18 | apply J19 | apply J20 | refine J2 ?_) | ((with_reducible apply J21); (· rfl)) | ((with_reducible intro hif); first | (focus (cases hif; done)) | (simp only [JH] at hif; try (exfalso; omega)) | (try (exfalso; omega))) | ((first | ((with_reducible apply J22 cRun_ok tab_ok); (· rfl)) | ((with_reducible apply J23 fol cRun_ok tab_ok); (· rfl)) | with_reducible apply J24); (· exact Vm.b65); (try kernel_rfl); (try exact Vm.b21)) | fail)
    apply At.endsPick [0, 1, 2, 3, 4, 20, 21] tab_ok (fn := Try.f29) (rs := [.cell 12 45, .tmp 13]) hA hro (Nat.le_of_ble_eq_true rfl) rfl
    · exact Vm.b12
    · exact Vm.b14
    · rfl
    · rfl
    · rfl
    · exact Vm.b31
    · rfl
    · exact Vm.b50
    · exact Vm.b9
    · exact fun β => by rw [hl]; rfl
    · exact Vm.b50
end Go.Proofs.Ytjliakjbdcplcaa.Vm
end

section
namespace Go.Proofs.Ytjliakjbdcplcaa.Vm
open Go.RowKit
attribute [local push_cast] runR opG gtmp gval gus opX tmpsOf tm tmO tmP restr look look2 tab tys zs ets eqB eqBL allB numOf ieq Int.cast_ofNat_Int Int.ofNat_zero beq_true beq_false frameOf ev evL ofV opV loadV noW pushF wrsL setH allBorn allGone HB.born HB.isGone HB.val SV.plain dstOk hp nav fitsT SV.size sizeL SV.isAgg TK.size TK.agg bin binE binN binI arN arI cmpN cmpI keq kn narrow callV storeV setp fillV buildV buildSliceV makeV sliceV appendV copyV List.isEmpty_nil srcV evO asN ite_t ite_f ite_bool ite_int ite_nat maxV v_beq v_ble v_blt cond_true cond_false List.getElem?_cons_zero List.getElem?_cons_succ List.getD_cons_zero List.getD_cons_succ List.getD_nil List.length_cons List.length_nil List.take_succ_cons List.take_zero List.set_cons_zero List.set_cons_succ List.cons_append List.nil_append List.append_assoc List.replicate_succ List.replicate_zero Nat.zero_add Nat.add_zero decide_true decide_false Bool.true_and Bool.and_true Bool.false_and Bool.and_false Bool.true_or Bool.or_true Bool.false_or Bool.or_false beq_self_eq_true Bool.or_self Nat.lt_irrefl Nat.not_lt_zero Nat.le_refl Option.getD_some Option.getD_none BEq.rfl Bool.not_true Bool.not_false Bool.cond_true_left Bool.cond_false_right prS sndsS i64S nav_ins nav_ins0 nav_ins1 nav_ins2 nav_ins3 nav_ins4 nav_snd nav_snd0 nav_snd1 nav_snd2 isIns_insS insOf_insS isSnd_sndS sndOf_sndS isI_int isI_nat iOf
set_option linter.unusedVariables false
set_option linter.unusedSimpArgs false
set_option maxRecDepth 100000
set_option maxHeartbeats 4000000
theorem Run_bad (P : List Ins) (v : Evi) (t s q o y d f : Int) (cs : List Int) (p1 p2 : Nat) (hP : PG P) (V : VOk v) (hc : cs.length ≤ 1000000) (hE : ropE P v (begS y t s cs d) f = 0) (r : RR) (hr : runA P v f.toNat (begS y t s cs d) Ins0 [] 0 = r) (hb : r.bad ≠ 0) : LitOk Try.prog 29 [.sl 1 2 [] 5 0 P.length (some p1), .agg [.int .u64 v.seed, .int .i64 v.process, .int .i64 v.ports, .int .i64 v.look, .int .i64 v.now], .agg [.agg [.int .i64 t, .int .i64 s, .int .i64 q], .int .i64 o, .int .i64 y], .sl 3 4 [] 1 0 cs.length (some p2), .int .i64 d, .int .i64 f]
    [.gone, .gone, .ro (.arr P.length 5 (prS P)), .gone, .ro (.arr cs.length 1 (i64S cs))]
    (.tup [.agg [.nat .i64 r.tr.length, .int .i64 r.at_, .sl 0 0 [] 0 0 0 (some 0), .nat .i64 0, .sl 0 0 [] 0 0 0 (some 0)], .int .i64 r.bad]) [.gone] := by
  have hok := hP.ok
  have hn := hP.len
  have hn' : P.length ≤ 1000000 := by omega
  have hf := (ropE_zero hE).1
  have hO := openE_zero (ropE_zero hE).2
  have hG : SG P (begS y t s cs d) := SG.of hO.2.2 (by simp [begS])
  obtain ⟨s0, hs0⟩ : ∃ s0, begS y t s cs d = s0 := ⟨_, rfl⟩
  rw [hs0] at hE hr hG
  have hl0 : ∀ ex, Less (.own 45 (.agg [.nat .i64 0, .nat .i64 0, .sl 0 0 [] 0 0 0 (some 0), .nat .i64 0, .sl 0 0 [] 0 0 0 (some 0)]) ex) (.own 45 (.agg [.nat .i64 0, .int .i64 0, .sl 0 0 [] 0 0 0 (some 0), .nat .i64 0, .sl 0 0 [] 0 0 0 (some 0)]) ex) := fun ex => less_res
  have hl1 := hl0 true
  refine litOkM (fn := Try.f29) 5 66 0 rfl rfl rfl rfl rfl (by simp only [StableL, Stable, hp, i64S, prS, insS, sndsS, sndS, stS, evS, macS, mB, cB, sB, eB, prO, prR, pbB, fbB, HB.stable]; simp [HB.born]) rfl fun w0 M E hro => ?_
  repeat' (first | with_reducible (first | apply J1 | apply J3 | apply J4 | apply J5 | apply J6 | apply J7 | apply J8 | apply J9 | apply J10 | apply J11 | apply J12 | apply J13 | apply J14 | apply J15 | apply J16 | apply J17 | apply J18 | apply J19 | apply J20 | refine J2 ?_) | ((with_reducible apply J21); (· rfl)) | ((with_reducible intro hif); first | (focus (cases hif; done)) | (simp only [JH] at hif; try (exfalso; omega)) | (try (exfalso; omega))) | ((first | ((with_reducible apply J22 cRun_ok tab_ok); (· rfl)) | ((with_reducible apply J23 fol cRun_ok tab_ok); (· rfl)) | with_reducible apply J24); (· exact Vm.b61); (try kernel_rfl); (try exact Vm.b60)) | fail)
  with_reducible apply WF.range (fn' := Try.f73) 28
  · exact Vm.b48
  · exact Vm.b14
  · rfl
  · rfl
  · rfl
  · rfl
  · rfl
  · rfl
  · rfl
  intro E1 rec tmps after hE1 hrec hcf haft
  repeat' (first | with_reducible (first | apply J1 | apply J3 | apply J4 | apply J5 | apply J6 | apply J7 | apply J8 | apply J9 | apply J10 | apply J11 | apply J12 | apply J13 | apply J14 | apply J15 | apply J16 | apply J17 | apply J18 | apply J19 | apply J20 | refine J2 ?_) | ((with_reducible apply J21); (· rfl)) | ((with_reducible intro hif); first | (focus (cases hif; done)) | (simp only [JH] at hif; try (exfalso; omega)) | (try (exfalso; omega))) | ((first | ((with_reducible apply J22 cRun_ok tab_ok); (· rfl)) | ((with_reducible apply J23 fol cRun_ok tab_ok); (· rfl)) | with_reducible apply J24); (· exact Vm.b62); (try kernel_rfl); (try exact Vm.b21)) | fail)
  refine At.pick (L2 := [.gone, .gone, .ro (.arr P.length 5 (prS P)), .gone, .ro (.arr cs.length 1 (i64S cs)), .gone, .gone, .own 45 (.agg [.nat .i64 0, .nat .i64 0, .sl 0 0 [] 0 0 0 (some 0), .nat .i64 0, .sl 0 0 [] 0 0 0 (some 0)]) true, eB 9 12 P.length, mB s0 v Ins0 10 19, cB s0, .gone, prO P, .own 46 (.int .i64 0) true, .own 45 (.agg [.nat .i64 0, .int .i64 0, .sl 0 0 [] 0 0 0 (some 0), .nat .i64 0, .sl 0 0 [] 0 0 0 (some 0)]) true, pbB 8, fbB f, .raw (.deferred (some [])), .raw (.loop (rec .ready none)), sB s0]) (φ2 := [(0, .yl 18), (1, .ptr 15 []), (2, .ptr 16 []), (4, .nat .i64 0)]) [0, 1, 2, 3, 4, 5, 6, 7, 8, 9, 10, 11, 12, 13, 14, 15, 16, 17, 18, 11] rfl rfl rfl ?_ rfl ?_ ?_ ?_ rfl ?_
  · exact Vm.b49
  · exact Vm.b56
  · exact Vm.b51
  · exact Vm.b56
  refine WF.loopAt (fun (z : RS) => RInv P v f r z) (fun (z : RS) => [(0, .yl 18), (1, .ptr 15 []), (2, .ptr 16 []), (4, .nat .i64 z.k)]) (fun (z : RS) => [.gone, .gone, .ro (.arr P.length 5 (prS P)), .gone, .ro (.arr cs.length 1 (i64S cs)), .gone, .gone, .own 45 (.agg [.nat .i64 0, .nat .i64 0, .sl 0 0 [] 0 0 0 (some 0), .nat .i64 0, .sl 0 0 [] 0 0 0 (some 0)]) true, eB 9 12 P.length, mB z.s v z.x 10 19, cB z.s, .gone, prO P, .own 46 (.int .i64 0) true, .own 45 (.agg [.nat .i64 z.k, .int .i64 z.a, .sl 0 0 [] 0 0 0 (some 0), .nat .i64 0, .sl 0 0 [] 0 0 0 (some 0)]) true, pbB 8, fbB f, .raw (.deferred (some [])), .raw (.loop (rec .ready none)), sB z.s]) (fun (z : RS) => f.toNat - z.k) ⟨0, s0, Ins0, [], 0⟩ ⟨Nat.zero_le _, hG, rfl, hr⟩ ?_ ?_ rfl ?_ ?_ rfl ?_
  · exact Vm.b10
  · exact Vm.b7
  · exact Vm.b56
  · exact Vm.b56
  rintro ⟨k, ⟨at1, en, rg, ce, dr, se⟩, x, tr, a⟩ ⟨hk, hg, hl, hr1⟩
  dsimp only at hk hg hl hr1 ⊢
  cases en
  · by_cases hkf : k < f.toNat
    · have hkf2 : (k : Int) < f := by omega
      by_cases hst : stepE P v ⟨at1, false, rg, ce, dr, se⟩ = 0
      · repeat' (first | with_reducible (first | apply J1 | apply J3 | apply J4 | apply J5 | apply J6 | apply J7 | apply J8 | apply J9 | apply J10 | apply J11 | apply J12 | apply J13 | apply J14 | apply J15 | apply J16 | apply J17 | apply J18 | apply J19 | apply J20 | refine J2 ?_) | ((with_reducible apply J21); (· rfl)) | ((with_reducible intro hif); first | (focus (cases hif; done)) | (simp only [JH] at hif; try (exfalso; omega)) | (try (exfalso; omega))) | ((first | ((with_reducible apply J22 cRun_ok tab_ok); (· rfl)) | ((with_reducible apply J23 fol cRun_ok tab_ok); (· rfl)) | with_reducible apply J24); (· exact Vm.b63); (try kernel_rfl); (try exact Vm.b21)) | fail)
        with_reducible apply WF.split 3 5
        · rfl
        with_reducible apply At.run cRun_ok tab_ok
        · rfl
        · rfl
        · rfl
        · exact Vm.b52
        · exact Vm.b53
        with_reducible apply At.yield (gr := _)
        · rfl
        · rfl
        · rfl
        · rfl
        · rfl
        · rfl
        · exact Vm.b52
        · exact Vm.b54
        · exact Vm.b52
        · exact Vm.b53
        · exact Vm.b52
        · exact Vm.b53
        · exact Vm.b54
        · exact hrec
        · exact hcf
        · rfl
        · rfl
        · rfl
        intro lb E2 next hE2 hnext
        repeat' (first | with_reducible (first | apply J1 | apply J3 | apply J4 | apply J5 | apply J6 | apply J7 | apply J8 | apply J9 | apply J10 | apply J11 | apply J12 | apply J13 | apply J14 | apply J15 | apply J16 | apply J17 | apply J18 | apply J19 | apply J20 | refine J2 ?_) | ((with_reducible apply J21); (· rfl)) | ((with_reducible intro hif); first | (focus (cases hif; done)) | (simp only [JH] at hif; try (exfalso; omega)) | (try (exfalso; omega))) | ((first | ((with_reducible apply J22 cRun_ok tab_ok); (· rfl)) | ((with_reducible apply J23 fol cRun_ok tab_ok); (· rfl)) | with_reducible apply J24); (· exact Vm.b64); (try kernel_rfl); (try exact Vm.b21)) | fail)
        with_reducible apply At.begins hrec
        · rfl
        with_reducible refine At.code ?_
        repeat' (first | with_reducible (first | apply J1 | apply J3 | apply J4 | apply J5 | apply J6 | apply J7 | apply J8 | apply J9 | apply J10 | apply J11 | apply J12 | apply J13 | apply J14 | apply J15 | apply J16 | apply J17 | apply J18 | apply J19 | apply J20 | refine J2 ?_) | ((with_reducible apply J21); (· rfl)) | ((with_reducible intro hif); first | (focus (cases hif; done)) | (simp only [JH] at hif; try (exfalso; omega)) | (try (exfalso; omega))) | ((first | ((with_reducible apply J22 cRun_ok tab_ok); (· rfl)) | ((with_reducible apply J23 fol cRun_ok tab_ok); (· rfl)) | with_reducible apply J24); (· exact Vm.b64); (try kernel_rfl); (try exact Vm.b21)) | fail)
        with_reducible apply At.roundNormal
        · exact Vm.b54
        apply hnext
        with_reducible apply At.runEnd cRun_ok tab_ok
        · rfl
        · rfl
        · rfl
        · exact Vm.b52
        · exact Vm.b53
        repeat' (first | with_reducible (first | apply J1 | apply J3 | apply J4 | apply J5 | apply J6 | apply J7 | apply J8 | apply J9 | apply J10 | apply J11 | apply J12 | apply J13 | apply J14 | apply J15 | apply J16 | apply J17 | apply J18 | apply J19 | apply J20 | refine J2 ?_) | ((with_reducible apply J21); (· rfl)) | ((with_reducible intro hif); first | (focus (cases hif; done)) | (simp only [JH] at hif; try (exfalso; omega)) | (try (exfalso; omega))) | ((first | ((with_reducible apply J22 cRun_ok tab_ok); (· rfl)) | ((with_reducible apply J23 fol cRun_ok tab_ok); (· rfl)) | with_reducible apply J24); (· exact Vm.b64); (try kernel_rfl); (try exact Vm.b21)) | fail)
        refine At.nextPick [0, 1, 2, 3, 4, 5, 6, 7, 8, 9, 10, 11, 12, 13, 14, 15, 16, 17, 18, 20] ⟨k + 1, stepS P v ⟨at1, false, rg, ce, dr, se⟩, stepX P ⟨at1, false, rg, ce, dr, se⟩ x, tr ++ [at1], at1⟩ ?_ rfl rfl rfl ?_ rfl ?_ ?_ ?_ rfl
        · exact Vm.b55
        · exact Vm.b31
        · exact Vm.b56
        · exact Vm.b51
        · exact Vm.b56
      · rw [runA_bad rfl (by omega) hst] at hr1
        subst hr1
        have hn190 := stepE_ne190 P v ⟨at1, false, rg, ce, dr, se⟩
        have hl2 : (tr ++ [at1]).length = k + 1 := by simp [hl]
        repeat' (first | with_reducible (first | apply J1 | apply J3 | apply J4 | apply J5 | apply J6 | apply J7 | apply J8 | apply J9 | apply J10 | apply J11 | apply J12 | apply J13 | apply J14 | apply J15 | apply J16 | apply J17 | apply J18 | apply J19 | apply J20 | refine J2 ?_) | ((with_reducible apply J21); (· rfl)) | ((with_reducible intro hif); first | (focus (cases hif; done)) | (simp only [JH] at hif; try (exfalso; omega)) | (try (exfalso; omega))) | ((first | ((with_reducible apply J22 cRun_ok tab_ok); (· rfl)) | ((with_reducible apply J23 fol cRun_ok tab_ok); (· rfl)) | with_reducible apply J24); (· exact Vm.b63); (try kernel_rfl); (try exact Vm.b21)) | fail)
        with_reducible apply WF.split 3 5
        · rfl
        with_reducible apply At.run cRun_ok tab_ok
        · rfl
        · rfl
        · rfl
        · exact Vm.b52
        · exact Vm.b53
        with_reducible apply At.yield (gr := _)
        · rfl
        · rfl
        · rfl
        · rfl
        · rfl
        · rfl
        · exact Vm.b52
        · exact Vm.b54
        · exact Vm.b52
        · exact Vm.b53
        · exact Vm.b52
        · exact Vm.b53
        · exact Vm.b54
        · exact hrec
        · exact hcf
        · rfl
        · rfl
        · rfl
        intro lb E2 next hE2 hnext
        repeat' (first | with_reducible (first | apply J1 | apply J3 | apply J4 | apply J5 | apply J6 | apply J7 | apply J8 | apply J9 | apply J10 | apply J11 | apply J12 | apply J13 | apply J14 | apply J15 | apply J16 | apply J17 | apply J18 | apply J19 | apply J20 | refine J2 ?_) | ((with_reducible apply J21); (· rfl)) | ((with_reducible intro hif); first | (focus (cases hif; done)) | (simp only [JH] at hif; try (exfalso; omega)) | (try (exfalso; omega))) | ((first | ((with_reducible apply J22 cRun_ok tab_ok); (· rfl)) | ((with_reducible apply J23 fol cRun_ok tab_ok); (· rfl)) | with_reducible apply J24); (· exact Vm.b64); (try kernel_rfl); (try exact Vm.b21)) | fail)
        with_reducible apply At.begins hrec
        · rfl
        with_reducible refine At.code ?_
        repeat' (first | with_reducible (first | apply J1 | apply J3 | apply J4 | apply J5 | apply J6 | apply J7 | apply J8 | apply J9 | apply J10 | apply J11 | apply J12 | apply J13 | apply J14 | apply J15 | apply J16 | apply J17 | apply J18 | apply J19 | apply J20 | refine J2 ?_) | ((with_reducible apply J21); (· rfl)) | ((with_reducible intro hif); first | (focus (cases hif; done)) | (simp only [JH] at hif; try (exfalso; omega)) | (try (exfalso; omega))) | ((first | ((with_reducible apply J22 cRun_ok tab_ok); (· rfl)) | ((with_reducible apply J23 fol cRun_ok tab_ok); (· rfl)) | with_reducible apply J24); (· (simp only [push_cast, ↓JP, Nat.reduceAdd, Nat.reduceEqDiff, Nat.reduceLT, Nat.reduceMul, Nat.reduceLeDiff, reduceCtorEq, reduceIte, ↓JK, cRun, JM, engP, prP, macP, nodupN, memN, eB, prO, pbB, fbB, JE, eEnded, eAt, eStep, eState, inR, inN, hst, hn190]; rfl)); (try kernel_rfl); (try exact Vm.b21)) | fail)
        with_reducible apply At.roundExit
        · exact Vm.b54
        apply hnext
        with_reducible apply At.runEnd cRun_ok tab_ok
        · rfl
        · rfl
        · rfl
        · exact Vm.b52
        · exact Vm.b53
        repeat' (first | with_reducible (first | apply J1 | apply J3 | apply J4 | apply J5 | apply J6 | apply J7 | apply J8 | apply J9 | apply J10 | apply J11 | apply J12 | apply J13 | apply J14 | apply J15 | apply J16 | apply J17 | apply J18 | apply J19 | apply J20 | refine J2 ?_) | ((with_reducible apply J21); (· rfl)) | ((with_reducible intro hif); first | (focus (cases hif; done)) | (simp only [JH] at hif; try (exfalso; omega)) | (try (exfalso; omega))) | ((first | ((with_reducible apply J22 cRun_ok tab_ok); (· rfl)) | ((with_reducible apply J23 fol cRun_ok tab_ok); (· rfl)) | with_reducible apply J24); (· exact Vm.b64); (try kernel_rfl); (try exact Vm.b21)) | fail)
        with_reducible apply At.itRet .done
        · rfl
        · rfl
        · intro h; cases h
        apply haft
        intro w1 M1 D1 hA
        dsimp only
        repeat' (first | with_reducible (first | apply J1 | apply J3 | apply J4 | apply J5 | apply J6 | apply J7 | apply J8 | apply J9 | apply J10 | apply J11 | apply J12 | apply J13 | apply J14 | apply J15 | apply J16 | apply J17 | apply J18 | apply J19 | apply J20 | refine J2 ?_) | ((with_reducible apply J21); (· rfl)) | ((with_reducible intro hif); first | (focus (cases hif; done)) | (simp only [JH] at hif; try (exfalso; omega)) | (try (exfalso; omega))) | ((first | ((with_reducible apply J22 cRun_ok tab_ok); (· rfl)) | ((with_reducible apply J23 fol cRun_ok tab_ok); (· rfl)) | with_reducible apply J24); (· exact Vm.b64); (try kernel_rfl); (try exact Vm.b21)) | fail)
        apply At.endsRet tab_ok (fn := Try.f29) (rs := [.cell 12 45, .tmp 13]) hA hro (Nat.le_of_ble_eq_true rfl) rfl
        · exact Vm.b12
        · exact Vm.b6
        · exact Vm.b7
        · rfl
        · exact Vm.b56
        · exact Vm.b9
        · exact fun β => by rw [hl2]; rfl
        · exact Vm.b56
    · have e0 : f.toNat - k = 0 := by omega
      have hkf2 : ¬ (k : Int) < f := by omega
      rw [e0, runA_zero rfl] at hr1
      subst hr1
      repeat' (first | with_reducible (first | apply J1 | apply J3 | apply J4 | apply J5 | apply J6 | apply J7 | apply J8 | apply J9 | apply J10 | apply J11 | apply J12 | apply J13 | apply J14 | apply J15 | apply J16 | apply J17 | apply J18 | apply J19 | apply J20 | refine J2 ?_) | ((with_reducible apply J21); (· rfl)) | ((with_reducible intro hif); first | (focus (cases hif; done)) | (simp only [JH] at hif; try (exfalso; omega)) | (try (exfalso; omega))) | ((first | ((with_reducible apply J22 cRun_ok tab_ok); (· rfl)) | ((with_reducible apply J23 fol cRun_ok tab_ok); (· rfl)) | with_reducible apply J24); (· (simp only [push_cast, ↓JP, Nat.reduceAdd, Nat.reduceEqDiff, Nat.reduceLT, Nat.reduceMul, Nat.reduceLeDiff, reduceCtorEq, reduceIte, ↓JK, cRun, JM, engP, prP, macP, nodupN, memN, eB, prO, pbB, fbB, JE, eEnded, eAt, eStep, eState, inR, inN, hkf2]; rfl)); (try kernel_rfl); (try exact Vm.b21)) | fail)
      with_reducible apply WF.split 3 5
      · rfl
      with_reducible apply At.run cRun_ok tab_ok
      · rfl
      · rfl
      · rfl
      · exact Vm.b57
      · exact Vm.b53
      with_reducible apply At.yield (gr := _)
      · rfl
      · rfl
      · rfl
      · rfl
      · rfl
      · rfl
      · exact Vm.b57
      · exact Vm.b58
      · exact Vm.b57
      · exact Vm.b53
      · exact Vm.b57
      · exact Vm.b53
      · exact Vm.b58
      · exact hrec
      · exact hcf
      · rfl
      · rfl
      · rfl
      intro lb E2 next hE2 hnext
      repeat' (first | with_reducible (first | apply J1 | apply J3 | apply J4 | apply J5 | apply J6 | apply J7 | apply J8 | apply J9 | apply J10 | apply J11 | apply J12 | apply J13 | apply J14 | apply J15 | apply J16 | apply J17 | apply J18 | apply J19 | apply J20 | refine J2 ?_) | ((with_reducible apply J21); (· rfl)) | ((with_reducible intro hif); first | (focus (cases hif; done)) | (simp only [JH] at hif; try (exfalso; omega)) | (try (exfalso; omega))) | ((first | ((with_reducible apply J22 cRun_ok tab_ok); (· rfl)) | ((with_reducible apply J23 fol cRun_ok tab_ok); (· rfl)) | with_reducible apply J24); (· exact Vm.b66); (try kernel_rfl); (try exact Vm.b21)) | fail)
      with_reducible apply At.begins hrec
      · rfl
      with_reducible refine At.code ?_
      repeat' (first | with_reducible (first | apply J1 | apply J3 | apply J4 | apply J5 | apply J6 | apply J7 | apply J8 | apply J9 | apply J10 | apply J11 | apply J12 | apply J13 | apply J14 | apply J15 | apply J16 | apply J17 | apply J18 | apply J19 | apply J20 | refine J2 ?_) | ((with_reducible apply J21); (· rfl)) | ((with_reducible intro hif); first | (focus (cases hif; done)) | (simp only [JH] at hif; try (exfalso; omega)) | (try (exfalso; omega))) | ((first | ((with_reducible apply J22 cRun_ok tab_ok); (· rfl)) | ((with_reducible apply J23 fol cRun_ok tab_ok); (· rfl)) | with_reducible apply J24); (· exact Vm.b66); (try kernel_rfl); (try exact Vm.b21)) | fail)
      with_reducible apply At.roundExit
      · exact Vm.b58
      apply hnext
      with_reducible apply At.runEnd cRun_ok tab_ok
      · rfl
      · rfl
      · rfl
      · exact Vm.b57
      · exact Vm.b53
      repeat' (first | with_reducible (first | apply J1 | apply J3 | apply J4 | apply J5 | apply J6 | apply J7 | apply J8 | apply J9 | apply J10 | apply J11 | apply J12 | apply J13 | apply J14 | apply J15 | apply J16 | apply J17 | apply J18 | apply J19 | apply J20 | refine J2 ?_) | ((with_reducible apply J21); (· rfl)) | ((with_reducible intro hif); first | (focus (cases hif; done)) | (simp only [JH] at hif; try (exfalso; omega)) | (try (exfalso; omega))) | ((first | ((with_reducible apply J22 cRun_ok tab_ok); (· rfl)) | ((with_reducible apply J23 fol cRun_ok tab_ok); (· rfl)) | with_reducible apply J24); (· exact Vm.b66); (try kernel_rfl); (try exact Vm.b21)) | fail)
      with_reducible apply At.itRet .done
      · rfl
      · rfl
      · intro h; cases h
      apply haft
      intro w1 M1 D1 hA
      dsimp only
      repeat' (first | with_reducible (first | apply J1 | apply J3 | apply J4 | apply J5 | apply J6 | apply J7 | apply J8 | apply J9 | apply J10 | apply J11 | apply J12 | apply J13 | apply J14 | apply J15 | apply J16 | apply J17 | apply J18 | apply J19 | apply J20 | refine J2 ?_) | ((with_reducible apply J21); (· rfl)) | ((with_reducible intro hif); first | (focus (cases hif; done)) | (simp only [JH] at hif; try (exfalso; omega)) | (try (exfalso; omega))) | ((first | ((with_reducible apply J22 cRun_ok tab_ok); (· rfl)) | ((with_reducible apply J23 fol cRun_ok tab_ok); (· rfl)) | with_reducible apply J24); (· exact Vm.b66); (try kernel_rfl); (try exact Vm.b21)) | fail)
      apply At.endsRet tab_ok (fn := Try.f29) (rs := [.cell 12 45, .tmp 13]) hA hro (Nat.le_of_ble_eq_true rfl) rfl
      · exact Vm.b12
      · exact Vm.b6
      · exact Vm.b7
      · rfl
      · exact Vm.b56
      · exact Vm.b9
      · exact fun β => by rw [hl]; rfl
      · exact Vm.b56
  · rw [runA_end rfl] at hr1
    rw [← hr1] at hb
    exact absurd rfl hb
end Go.Proofs.Ytjliakjbdcplcaa.Vm
end

section
namespace Go.Proofs.Ytjliakjbdcplcaa.Vm
open Go.RowKit
attribute [local push_cast] runR opG gtmp gval gus opX tmpsOf tm tmO tmP restr look look2 tab tys zs ets eqB eqBL allB numOf ieq Int.cast_ofNat_Int Int.ofNat_zero beq_true beq_false frameOf ev evL ofV opV loadV noW pushF wrsL setH allBorn allGone HB.born HB.isGone HB.val SV.plain dstOk hp nav fitsT SV.size sizeL SV.isAgg TK.size TK.agg bin binE binN binI arN arI cmpN cmpI keq kn narrow callV storeV setp fillV buildV buildSliceV makeV sliceV appendV copyV List.isEmpty_nil srcV evO asN ite_t ite_f ite_bool ite_int ite_nat maxV v_beq v_ble v_blt cond_true cond_false List.getElem?_cons_zero List.getElem?_cons_succ List.getD_cons_zero List.getD_cons_succ List.getD_nil List.length_cons List.length_nil List.take_succ_cons List.take_zero List.set_cons_zero List.set_cons_succ List.cons_append List.nil_append List.append_assoc List.replicate_succ List.replicate_zero Nat.zero_add Nat.add_zero decide_true decide_false Bool.true_and Bool.and_true Bool.false_and Bool.and_false Bool.true_or Bool.or_true Bool.false_or Bool.or_false beq_self_eq_true Bool.or_self Nat.lt_irrefl Nat.not_lt_zero Nat.le_refl Option.getD_some Option.getD_none BEq.rfl Bool.not_true Bool.not_false Bool.cond_true_left Bool.cond_false_right prS sndsS i64S nav_ins nav_ins0 nav_ins1 nav_ins2 nav_ins3 nav_ins4 nav_snd nav_snd0 nav_snd1 nav_snd2 isIns_insS insOf_insS isSnd_sndS sndOf_sndS isI_int isI_nat iOf
set_option linter.unusedVariables false
set_option linter.unusedSimpArgs false
set_option maxRecDepth 100000
set_option maxHeartbeats 4000000
def cRej : FuncId → Option Spec := look2 [(51, sRoB)]
theorem cRej_ok : ∀ f S, cRej f = some S → CallOk Try.prog f S := allOk_spec ⟨sRoB_ok, trivial⟩
theorem Run_rej (P : List Ins) (v : Evi) (t s q o y d f : Int) (cs : List Int) (p1 p2 : Nat) (hok : ∀ x ∈ P, x.ok) (hn : P.length ≤ 1000000) (hc : cs.length ≤ 1000000) (hE : ropE P v (begS y t s cs d) f ≠ 0) : LitOk Try.prog 29 [.sl 1 2 [] 5 0 P.length (some p1), .agg [.int .u64 v.seed, .int .i64 v.process, .int .i64 v.ports, .int .i64 v.look, .int .i64 v.now], .agg [.agg [.int .i64 t, .int .i64 s, .int .i64 q], .int .i64 o, .int .i64 y], .sl 3 4 [] 1 0 cs.length (some p2), .int .i64 d, .int .i64 f]
    [.gone, .gone, .ro (.arr P.length 5 (prS P)), .gone, .ro (.arr cs.length 1 (i64S cs))]
    (.tup [.agg [.nat .i64 0, .int .i64 0, .sl 0 0 [] 0 0 0 (some 0), .nat .i64 0, .sl 0 0 [] 0 0 0 (some 0)], .int .i64 (ropE P v (begS y t s cs d) f)]) [.gone] := by
  obtain ⟨s0, hs0⟩ : ∃ s0, begS y t s cs d = s0 := ⟨_, rfl⟩
  rw [hs0] at hE ⊢
  refine litOkM (fn := Try.f29) 5 66 0 rfl rfl rfl rfl rfl (by simp only [StableL, Stable, hp, i64S, prS, insS, sndsS, sndS, stS, evS, macS, mB, cB, sB, eB, prO, prR, pbB, fbB, HB.stable]; simp [HB.born]) rfl fun w0 M E hro => ?_
  repeat' (first | with_reducible (first | apply J1 | apply J3 | apply J4 | apply J5 | apply J6 | apply J7 | apply J8 | apply J9 | apply J10 | apply J11 | apply J12 | apply J13 | apply J14 | apply J15 | apply J16 | apply J17 | apply J18 | apply J19 | apply J20 | refine J2 ?_) | ((with_reducible apply J21); (· rfl)) | ((with_reducible intro hif); first | (focus (cases hif; done)) | (simp only [JH] at hif; try (exfalso; omega)) | (try (exfalso; omega))) | ((first | ((with_reducible apply J22 cRej_ok tab_ok); (· rfl)) | ((with_reducible apply J23 fol cRej_ok tab_ok); (· rfl)) | with_reducible apply J24); (· (simp only [push_cast, ↓JP, Nat.reduceAdd, Nat.reduceEqDiff, Nat.reduceLT, Nat.reduceMul, Nat.reduceLeDiff, reduceCtorEq, reduceIte, ↓JK, cRej, sRoB, JE, hs0, inR, inN, hE]; rfl)); (try kernel_rfl); (try (focus (first | exact True.intro | ((try simp only [JS, implies_true, forall_const, shaped, shapedL, kndOf, inR, inN]); (first | first | omega | exact ⟨hok, hn, hc⟩ | (repeat' (first | assumption | exact True.intro | omega | apply And.intro))); done))))) | fail)
  apply At.endsRet tab_ok (fn := Try.f29) (rs := [.cell 12 45, .tmp 13]) Anc.refl hro (Nat.le_of_ble_eq_true rfl) rfl
  · exact Vm.b12
  · exact Vm.b6
  · exact Vm.b7
  · rfl
  · exact Vm.b56
  · exact Vm.b9
  · exact fun β => rfl
  · exact Vm.b56
theorem runO_good {P : List Ins} {v : Evi} {s : Sta} {f : Int} (h : (runO P v s f).bad = 0) : ropE P v s f = 0 := by
  by_cases q : ropE P v s f = 0
  · exact q
  · unfold runO at h
    rw [if_neg q] at h
    exact absurd h q
theorem pg_of {P : List Ins} {v : Evi} {s : Sta} {f : Int} (hok : ∀ x ∈ P, x.ok) (h : ropE P v s f = 0) : PG P ∧ VOk v :=
  have q := openE_zero (ropE_zero h).2
  ⟨⟨hok, q.1⟩, VOk.of q.2.1⟩
theorem RunB_lit (P : List Ins) (v : Evi) (t s q o y d f : Int) (cs : List Int) (p1 p2 : Nat) (hok : ∀ x ∈ P, x.ok) (hn : P.length ≤ 1000000) (hc : cs.length ≤ 1000000) (hb : (runO P v (begS y t s cs d) f).bad ≠ 0) : LitOk Try.prog 29 [.sl 1 2 [] 5 0 P.length (some p1), .agg [.int .u64 v.seed, .int .i64 v.process, .int .i64 v.ports, .int .i64 v.look, .int .i64 v.now], .agg [.agg [.int .i64 t, .int .i64 s, .int .i64 q], .int .i64 o, .int .i64 y], .sl 3 4 [] 1 0 cs.length (some p2), .int .i64 d, .int .i64 f]
    [.gone, .gone, .ro (.arr P.length 5 (prS P)), .gone, .ro (.arr cs.length 1 (i64S cs))]
    (.tup [.agg [.nat .i64 (runO P v (begS y t s cs d) f).tr.length, .int .i64 (runO P v (begS y t s cs d) f).at_, .sl 0 0 [] 0 0 0 (some 0), .nat .i64 0, .sl 0 0 [] 0 0 0 (some 0)], .int .i64 (runO P v (begS y t s cs d) f).bad]) [.gone] := by
  by_cases hE : ropE P v (begS y t s cs d) f = 0
  · have e : runO P v (begS y t s cs d) f = runA P v f.toNat (begS y t s cs d) Ins0 [] 0 := by unfold runO; rw [if_pos hE]
    obtain ⟨hP, V⟩ := pg_of hok hE
    rw [e] at hb ⊢
    exact Run_bad P v t s q o y d f cs p1 p2 hP V hc hE _ rfl hb
  · have e : runO P v (begS y t s cs d) f = ⟨[], 0, ropE P v (begS y t s cs d) f, zeroSt, Ins0⟩ := by unfold runO; rw [if_neg hE]
    rw [e]
    exact Run_rej P v t s q o y d f cs p1 p2 hok hn hc hE
theorem RunG_lit (P : List Ins) (v : Evi) (t s q o y d f : Int) (cs : List Int) (p1 p2 : Nat) (hok : ∀ x ∈ P, x.ok) (hc : cs.length ≤ 1000000) (hb : (runO P v (begS y t s cs d) f).bad = 0) : LitOk Try.prog 29 [.sl 1 2 [] 5 0 P.length (some p1), .agg [.int .u64 v.seed, .int .i64 v.process, .int .i64 v.ports, .int .i64 v.look, .int .i64 v.now], .agg [.agg [.int .i64 t, .int .i64 s, .int .i64 q], .int .i64 o, .int .i64 y], .sl 3 4 [] 1 0 cs.length (some p2), .int .i64 d, .int .i64 f]
    [.gone, .gone, .ro (.arr P.length 5 (prS P)), .gone, .ro (.arr cs.length 1 (i64S cs))]
    (.tup [.agg [.nat .i64 (runO P v (begS y t s cs d) f).tr.length, .int .i64 (runO P v (begS y t s cs d) f).at_, .sl 5 5 [] 1 0 (runO P v (begS y t s cs d) f).s.cells.length none, .int .i64 (runO P v (begS y t s cs d) f).s.draws, .sl 6 6 [] 3 0 (runO P v (begS y t s cs d) f).s.sends.length none], .int .i64 0]) [.gone, .gone, .gone, .gone, .gone, cB (runO P v (begS y t s cs d) f).s, sB (runO P v (begS y t s cs d) f).s] := by
  have hE := runO_good hb
  have e : runO P v (begS y t s cs d) f = runA P v f.toNat (begS y t s cs d) Ins0 [] 0 := by unfold runO; rw [if_pos hE]
  obtain ⟨hP, V⟩ := pg_of hok hE
  rw [e] at hb ⊢
  exact Run_good P v t s q o y d f cs p1 p2 hP V hc hE _ rfl hb
def sRunB : Spec := fun args h m => match args with
  | [v1, .agg [v2, v3, v4, v5, v6], .agg [.agg [v7, v8, v9], v10, v11], v12, v13, v14] => match srcV h 5 (.tup []) v1, srcV h 1 (.tup []) v12 with
    | some (c1, n1, f1, r1), some (c12, n12, f12, r12) => bif isI .u64 v2 && isI .i64 v3 && isI .i64 v4 && isI .i64 v5 && isI .i64 v6 && isI .i64 v7 && isI .i64 v8 && isI .i64 v9 && isI .i64 v10 && isI .i64 v11 && isI .i64 v13 && isI .i64 v14 then some (c1 ∧ c12 ∧ (∀ q, q < n1 → isIns (f1 q) = true) ∧ (∀ q, q < n12 → isI .i64 (f12 q) = true) ∧ ((∀ x ∈ (ls insOf n1 f1), x.ok)) ∧ (n1 ≤ 1000000) ∧ (n12 ≤ 1000000) ∧ ((runO (ls insOf n1 f1) ⟨(iOf v2), (iOf v3), (iOf v4), (iOf v5), (iOf v6)⟩ (begS (iOf v11) (iOf v7) (iOf v8) (ls iOf n12 f12) (iOf v13)) (iOf v14)).bad ≠ 0), .tup [.agg [.nat .i64 (runO (ls insOf n1 f1) ⟨(iOf v2), (iOf v3), (iOf v4), (iOf v5), (iOf v6)⟩ (begS (iOf v11) (iOf v7) (iOf v8) (ls iOf n12 f12) (iOf v13)) (iOf v14)).tr.length, .int .i64 (runO (ls insOf n1 f1) ⟨(iOf v2), (iOf v3), (iOf v4), (iOf v5), (iOf v6)⟩ (begS (iOf v11) (iOf v7) (iOf v8) (ls iOf n12 f12) (iOf v13)) (iOf v14)).at_, .sl 0 0 [] 0 0 0 (some 0), .nat .i64 0, .sl 0 0 [] 0 0 0 (some 0)], .int .i64 (runO (ls insOf n1 f1) ⟨(iOf v2), (iOf v3), (iOf v4), (iOf v5), (iOf v6)⟩ (begS (iOf v11) (iOf v7) (iOf v8) (ls iOf n12 f12) (iOf v13)) (iOf v14)).bad], r1 ++ r12, []) else none
    | _, _ => none
  | _ => none
theorem sRunB_ok : CallOk Try.prog 29 sRunB := by
  refine ⟨named_spec (by kernel_rfl), fun args h m c v rd wr hs hm hc w0 M β h' w R hrd hwr hst => ?_⟩
  unfold sRunB at hs
  split at hs
  · rename_i v1 v2 v3 v4 v5 v6 v7 v8 v9 v10 v11 v12 v13 v14
    split at hs
    · rename_i c1 n1 f1 r1 c12 n12 f12 r12 a1 a12
      obtain ⟨hb, hs⟩ := bif_some hs
      simp only [Option.some.injEq, Prod.mk.injEq] at hs
      obtain ⟨rfl, rfl, rfl, rfl⟩ := hs
      simp only [Bool.and_eq_true] at hb
      obtain ⟨⟨⟨⟨⟨⟨⟨⟨⟨⟨⟨b2, b3⟩, b4⟩, b5⟩, b6⟩, b7⟩, b8⟩, b9⟩, b10⟩, b11⟩, b13⟩, b14⟩ := hb
      obtain ⟨k1, k12, g1, g12, y1, y2, y3, y4⟩ := hc
      obtain ⟨A1, p1, d1, e1, t1⟩ := reads_src R a1 k1 (fun i hi => hrd i (List.mem_append_left _ hi)) (by omega)
      obtain ⟨A12, p12, d12, e12, t12⟩ := reads_src R a12 k12 (fun i hi => hrd i (List.mem_append_right _ hi)) (by omega)
      refine callRo (views := [⟨5, (ls insOf n1 f1).length, prS (ls insOf n1 f1), A1, p1⟩, ⟨1, (ls iOf n12 f12).length, i64S (ls iOf n12 f12), A12, p12⟩]) (RunB_lit (ls insOf n1 f1) ⟨(iOf v2), (iOf v3), (iOf v4), (iOf v5), (iOf v6)⟩ (iOf v7) (iOf v8) (iOf v9) (iOf v10) (iOf v11) (iOf v13) (iOf v14) (ls iOf n12 f12) p1 p12 y1 (by rw [ls_length]; exact y2) (by rw [ls_length]; exact y3) y4) ?_ R hm hwr ?_ ?_ ?_
      · intro x hx
        simp only [List.mem_cons, List.not_mem_nil, or_false] at hx
        rcases hx with rfl | rfl
        · exact viewIns t1 e1 g1
        · exact viewI64 t12 e12 g12
      · intro β1 hv
        simp only [Vd, ls_length, and_true] at hv
        obtain ⟨z1, z12⟩ := hv
        simp only [denL, aggDen, intDen, natDen, boolDen, ls_length, z1, z12, d1, d12, isI_den b2, isI_den b3, isI_den b4, isI_den b5, isI_den b6, isI_den b7, isI_den b8, isI_den b9, isI_den b10, isI_den b11, isI_den b13, isI_den b14]
      · exact Vm.b56
      · exact Vm.b56
    · cases hs
  · cases hs
def sRunG : Spec := fun args h m => match args with
  | [v1, .agg [v2, v3, v4, v5, v6], .agg [.agg [v7, v8, v9], v10, v11], v12, v13, v14] => match srcV h 5 (.tup []) v1, srcV h 1 (.tup []) v12 with
    | some (c1, n1, f1, r1), some (c12, n12, f12, r12) => bif isI .u64 v2 && isI .i64 v3 && isI .i64 v4 && isI .i64 v5 && isI .i64 v6 && isI .i64 v7 && isI .i64 v8 && isI .i64 v9 && isI .i64 v10 && isI .i64 v11 && isI .i64 v13 && isI .i64 v14 then some (c1 ∧ c12 ∧ (∀ q, q < n1 → isIns (f1 q) = true) ∧ (∀ q, q < n12 → isI .i64 (f12 q) = true) ∧ ((∀ x ∈ (ls insOf n1 f1), x.ok)) ∧ (n1 ≤ 1000000) ∧ (n12 ≤ 1000000) ∧ ((runO (ls insOf n1 f1) ⟨(iOf v2), (iOf v3), (iOf v4), (iOf v5), (iOf v6)⟩ (begS (iOf v11) (iOf v7) (iOf v8) (ls iOf n12 f12) (iOf v13)) (iOf v14)).bad = 0), .tup [.agg [.nat .i64 (runO (ls insOf n1 f1) ⟨(iOf v2), (iOf v3), (iOf v4), (iOf v5), (iOf v6)⟩ (begS (iOf v11) (iOf v7) (iOf v8) (ls iOf n12 f12) (iOf v13)) (iOf v14)).tr.length, .int .i64 (runO (ls insOf n1 f1) ⟨(iOf v2), (iOf v3), (iOf v4), (iOf v5), (iOf v6)⟩ (begS (iOf v11) (iOf v7) (iOf v8) (ls iOf n12 f12) (iOf v13)) (iOf v14)).at_, .sl m m [] 1 0 (runO (ls insOf n1 f1) ⟨(iOf v2), (iOf v3), (iOf v4), (iOf v5), (iOf v6)⟩ (begS (iOf v11) (iOf v7) (iOf v8) (ls iOf n12 f12) (iOf v13)) (iOf v14)).s.cells.length none, .int .i64 (runO (ls insOf n1 f1) ⟨(iOf v2), (iOf v3), (iOf v4), (iOf v5), (iOf v6)⟩ (begS (iOf v11) (iOf v7) (iOf v8) (ls iOf n12 f12) (iOf v13)) (iOf v14)).s.draws, .sl (m + 1) (m + 1) [] 3 0 (runO (ls insOf n1 f1) ⟨(iOf v2), (iOf v3), (iOf v4), (iOf v5), (iOf v6)⟩ (begS (iOf v11) (iOf v7) (iOf v8) (ls iOf n12 f12) (iOf v13)) (iOf v14)).s.sends.length none], .int .i64 0], r1 ++ r12, [(m, cB (runO (ls insOf n1 f1) ⟨(iOf v2), (iOf v3), (iOf v4), (iOf v5), (iOf v6)⟩ (begS (iOf v11) (iOf v7) (iOf v8) (ls iOf n12 f12) (iOf v13)) (iOf v14)).s), (m + 1, sB (runO (ls insOf n1 f1) ⟨(iOf v2), (iOf v3), (iOf v4), (iOf v5), (iOf v6)⟩ (begS (iOf v11) (iOf v7) (iOf v8) (ls iOf n12 f12) (iOf v13)) (iOf v14)).s)]) else none
    | _, _ => none
  | _ => none
theorem sRunG_ok : CallOk Try.prog 29 sRunG := by
  refine ⟨named_spec (by kernel_rfl), fun args h m c v rd wr hs hm hc w0 M β h' w R hrd hwr hst => ?_⟩
  unfold sRunG at hs
  split at hs
  · rename_i v1 v2 v3 v4 v5 v6 v7 v8 v9 v10 v11 v12 v13 v14
    split at hs
    · rename_i c1 n1 f1 r1 c12 n12 f12 r12 a1 a12
      obtain ⟨hb, hs⟩ := bif_some hs
      simp only [Option.some.injEq, Prod.mk.injEq] at hs
      obtain ⟨rfl, rfl, rfl, rfl⟩ := hs
      simp only [Bool.and_eq_true] at hb
      obtain ⟨⟨⟨⟨⟨⟨⟨⟨⟨⟨⟨b2, b3⟩, b4⟩, b5⟩, b6⟩, b7⟩, b8⟩, b9⟩, b10⟩, b11⟩, b13⟩, b14⟩ := hb
      obtain ⟨k1, k12, g1, g12, y1, y2, y3, y4⟩ := hc
      obtain ⟨A1, p1, d1, e1, t1⟩ := reads_src R a1 k1 (fun i hi => hrd i (List.mem_append_left _ hi)) (by omega)
      obtain ⟨A12, p12, d12, e12, t12⟩ := reads_src R a12 k12 (fun i hi => hrd i (List.mem_append_right _ hi)) (by omega)
      refine callRo (views := [⟨5, (ls insOf n1 f1).length, prS (ls insOf n1 f1), A1, p1⟩, ⟨1, (ls iOf n12 f12).length, i64S (ls iOf n12 f12), A12, p12⟩]) (RunG_lit (ls insOf n1 f1) ⟨(iOf v2), (iOf v3), (iOf v4), (iOf v5), (iOf v6)⟩ (iOf v7) (iOf v8) (iOf v9) (iOf v10) (iOf v11) (iOf v13) (iOf v14) (ls iOf n12 f12) p1 p12 y1 (by rw [ls_length]; exact y3) y4) ?_ R hm hwr ?_ ?_ ?_
      · intro x hx
        simp only [List.mem_cons, List.not_mem_nil, or_false] at hx
        rcases hx with rfl | rfl
        · exact viewIns t1 e1 g1
        · exact viewI64 t12 e12 g12
      · intro β1 hv
        simp only [Vd, ls_length, and_true] at hv
        obtain ⟨z1, z12⟩ := hv
        simp only [denL, aggDen, intDen, natDen, boolDen, ls_length, z1, z12, d1, d12, isI_den b2, isI_den b3, isI_den b4, isI_den b5, isI_den b6, isI_den b7, isI_den b8, isI_den b9, isI_den b10, isI_den b11, isI_den b13, isI_den b14]
      · exact Vm.b56
      · exact Vm.b56
    · cases hs
  · cases hs
end Go.Proofs.Ytjliakjbdcplcaa.Vm
end

section
namespace Go.Proofs.Ytjliakjbdcplcaa.Vm
open Go.RowKit
attribute [local push_cast] runR opG gtmp gval gus opX tmpsOf tm tmO tmP restr look look2 tab tys zs ets eqB eqBL allB numOf ieq Int.cast_ofNat_Int Int.ofNat_zero beq_true beq_false frameOf ev evL ofV opV loadV noW pushF wrsL setH allBorn allGone HB.born HB.isGone HB.val SV.plain dstOk hp nav fitsT SV.size sizeL SV.isAgg TK.size TK.agg bin binE binN binI arN arI cmpN cmpI keq kn narrow callV storeV setp fillV buildV buildSliceV makeV sliceV appendV copyV List.isEmpty_nil srcV evO asN ite_t ite_f ite_bool ite_int ite_nat maxV v_beq v_ble v_blt cond_true cond_false List.getElem?_cons_zero List.getElem?_cons_succ List.getD_cons_zero List.getD_cons_succ List.getD_nil List.length_cons List.length_nil List.take_succ_cons List.take_zero List.set_cons_zero List.set_cons_succ List.cons_append List.nil_append List.append_assoc List.replicate_succ List.replicate_zero Nat.zero_add Nat.add_zero decide_true decide_false Bool.true_and Bool.and_true Bool.false_and Bool.and_false Bool.true_or Bool.or_true Bool.false_or Bool.or_false beq_self_eq_true Bool.or_self Nat.lt_irrefl Nat.not_lt_zero Nat.le_refl Option.getD_some Option.getD_none BEq.rfl Bool.not_true Bool.not_false Bool.cond_true_left Bool.cond_false_right prS sndsS i64S nav_ins nav_ins0 nav_ins1 nav_ins2 nav_ins3 nav_ins4 nav_snd nav_snd0 nav_snd1 nav_snd2 isIns_insS insOf_insS isSnd_sndS sndOf_sndS isI_int isI_nat iOf
set_option linter.unusedVariables false
set_option linter.unusedSimpArgs false
set_option maxRecDepth 100000
set_option maxHeartbeats 4000000
def rvS (e a b c u : Nat) (w : Bool) : SV := .agg [.ptr e [], .fn 44 [.ptr a [], .ptr b [], .ptr c []], .nat .i64 u, .bool w]
def rB (e a b c u : Nat) (w : Bool) : HB := .own 125 (rvS e a b c u w) true
theorem rnone_lit (u : Nat) (w : Bool) : LitOk Try.prog 46 [.ptr 1 []] [.gone, rB 2 3 4 5 u w, .gone, .gone, .gone, .gone] (.bool false) [.gone, rB 2 3 4 5 u w, .gone, .gone, .gone, .gone] := by
  refine litOkM (fn := Try.f46) 6 12 0 rfl rfl rfl rfl rfl (by simp only [StableL, Stable, hp, i64S, prS, insS, sndsS, sndS, stS, evS, macS, mB, cB, sB, eB, prO, prR, pbB, fbB, rB, rvS, HB.stable]; simp [HB.born, rB, rvS]) rfl fun w0 M E hro => ?_
  repeat' (first | with_reducible (first | apply J1 | apply J3 | apply J4 | apply J5 | apply J6 | apply J7 | apply J8 | apply J9 | apply J10 | apply J11 | apply J12 | apply J13 | apply J14 | apply J15 | apply J16 | apply J17 | apply J18 | apply J19 | apply J20 | refine J2 ?_) | ((with_reducible apply J21); (· rfl)) | ((with_reducible intro hif); first | (focus (cases hif; done)) | (simp only [JH] at hif; try (exfalso; omega)) | (try (exfalso; omega))) | ((first | ((with_reducible apply J22 c1_ok tab_ok); (· rfl)) | ((with_reducible apply J23 fol c1_ok tab_ok); (· rfl)) | with_reducible apply J24); (· (simp only [push_cast, ↓JP, Nat.reduceAdd, Nat.reduceEqDiff, Nat.reduceLT, Nat.reduceMul, Nat.reduceLeDiff, reduceCtorEq, reduceIte, ↓JK, rB, rvS, inR, inN]; rfl)); (try kernel_rfl); (try exact Vm.b21)) | fail)
  apply At.endsPick [0, 1, 2, 3, 4, 5] tab_ok (fn := Try.f46) (rs := [.tmp 2]) Anc.refl hro (Nat.le_of_ble_eq_true rfl) rfl
  · exact Vm.b12
  · exact Vm.b14
  · rfl
  · rfl
  · rfl
  · exact Vm.b31
  · rfl
  · exact Vm.b59
  · exact Vm.b9
  · exact fun β => rfl
  · exact Vm.b59
end Go.Proofs.Ytjliakjbdcplcaa.Vm
end

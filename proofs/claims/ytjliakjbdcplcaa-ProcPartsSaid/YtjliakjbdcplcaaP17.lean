import Derived.Test.YtjliakjbdcplcaaP6
import Derived.Test.YtjliakjbdcplcaaP7
import Derived.Test.YtjliakjbdcplcaaP8
import Derived.Test.YtjliakjbdcplcaaP9
import Derived.Test.YtjliakjbdcplcaaP11
import Derived.Test.YtjliakjbdcplcaaP14
import Derived.Test.YtjliakjbdcplcaaP15
import Derived.Test.YtjliakjbdcplcaaP16
section
namespace Go.Proofs.Ytjliakjbdcplcaa.Vm
theorem b127 {P : Prop} (h : P := by (repeat' (first | exact trivial | exact rfl | assumption | apply Stable.ite | apply And.intro | intro _ | (simp only [Stable, StableL, pcR, dnB, DnI.at_, dnS, dnR, pcS, i64S, prS, insS, sndsS, sndS, evtsS, evtS, prO, i64O, inO, evO_, cB, sB, u8S, esS, esA, HB.stable]; done)))) : P := h
theorem b128 {P : Prop} (h : P := by (repeat' (first | exact trivial | exact .inl rfl | exact .inr (.same _) | exact .inr .loose | exact .inr (.arr (by assumption)) | apply And.intro | (exact .inr (less_catE _ _ hUc rfl))))) : P := h
theorem b129 {P : Prop} (h : P := by (first | exact True.intro | ((try simp only [JS, implies_true, forall_const, shaped, shapedL, kndOf, ls_prS, ls_prS', ls_i64S', ls_i64S, ls_evtsS', ls_evtsS, ls_length, prc_eta, iOf]); (repeat' (first | exact True.intro | assumption | omega | apply And.intro | rfl | decide | intro _)); done) | ((try simp only [JS, implies_true, forall_const, shaped, shapedL, kndOf, inR, inN]); (repeat' (first | assumption | exact True.intro | omega | apply And.intro)); done))) : P := h
theorem b130 {P : Prop} (h : P := by (simp only [push_cast, ↓JP, Nat.reduceAdd, Nat.reduceEqDiff, Nat.reduceLT, Nat.reduceMul, Nat.reduceLeDiff, reduceCtorEq, reduceIte, ↓JK, JE, prc_eta, cEq28, sPSame, sSev, isEvt_evtS, ls_evtsS, ls_evtsS', ls_evtsS2, evtsS, inR, inN, q1, q2]; rfl)) : P := h
theorem b131 {P : Prop} (h : P := by (first | exact True.intro | ((try simp only [JS, Nat.zero_add, implies_true, forall_const, shaped, shapedL, kndOf, ls_i64S', ls_i64S, ls_prS, ls_prS', ls_u8S, ls_u8S', ls_esS, ls_esS', ls_evtsS', ls_evtsS, ls_evtsS2, ls_length, evtOf_evtS, prc_eta, rul_eta, dnn_eta, iOf, capB]); (repeat' (first | exact True.intro | (exact fun _ _ => isEvt_ite rfl rfl) | assumption | omega | apply And.intro | rfl | decide | intro _)); done) | ((try simp only [JS, implies_true, forall_const, shaped, shapedL, kndOf]); (repeat' (first | assumption | exact True.intro | omega | apply And.intro)); done))) : P := h
theorem b132 {P : Prop} (h : P := by (first | exact True.intro | ((try simp only [JS, Nat.zero_add, implies_true, forall_const, shaped, shapedL, kndOf, ls_i64S', ls_i64S, ls_prS, ls_prS', ls_u8S, ls_u8S', ls_esS, ls_esS', ls_evtsS', ls_evtsS, ls_evtsS2, ls_length, evtOf_evtS, prc_eta, rul_eta, dnn_eta, iOf, capB, hkl, he, h0, hOE, hUl, hUu]); (repeat' (first | exact True.intro | (exact fun _ _ => isEvt_ite rfl rfl) | assumption | omega | apply And.intro | rfl | decide | intro _)); done) | ((try simp only [JS, implies_true, forall_const, shaped, shapedL, kndOf]); (repeat' (first | assumption | exact True.intro | omega | apply And.intro)); done))) : P := h
theorem b133 {P : Prop} (h : P := by (simp only [push_cast, ↓JP, Nat.reduceAdd, Nat.reduceEqDiff, Nat.reduceLT, Nat.reduceMul, Nat.reduceLeDiff, reduceCtorEq, reduceIte, ↓JK, cPaG, sAllX, ↓evtS_sz, ↓evtS_ag, ↓evtS_pl, Nat.sub_zero, hPP, hCC, hQQ, hID, hAH, hFU, hL, hkl, he, h0, hOE, hUl, hUu]; rfl)) : P := h
theorem b134 {P : Prop} (h : P := by (first | exact True.intro | ((try simp only [JS, Nat.zero_add, implies_true, forall_const, shaped, shapedL, kndOf, ls_i64S', ls_i64S, ls_prS, ls_prS', ls_u8S, ls_u8S', ls_esS, ls_esS', ls_evtsS', ls_evtsS, ls_evtsS2, ls_length, evtOf_evtS, prc_eta, rul_eta, dnn_eta, iOf, capB, hkl, hkk, Int.toNat_natCast, hT1, hT2, hT3, hWa, hWb, hUl, hUu, hUp, eqD_self]); (repeat' (first | exact True.intro | (exact fun _ _ => isEvt_ite rfl rfl) | assumption | omega | apply And.intro | rfl | decide | intro _)); done) | ((try simp only [JS, implies_true, forall_const, shaped, shapedL, kndOf]); (repeat' (first | assumption | exact True.intro | omega | apply And.intro)); done))) : P := h
theorem b135 {P : Prop} (h : P := by (simp only [push_cast, ↓JP, Nat.reduceAdd, Nat.reduceEqDiff, Nat.reduceLT, Nat.reduceMul, Nat.reduceLeDiff, reduceCtorEq, reduceIte, ↓JK, cPaX, sAllX, ↓evtS_sz, ↓evtS_ag, ↓evtS_pl, Nat.sub_zero, hPP, hCC, hQQ, hID, hAH, hFU, hL, hkl, he, h0, hOE, hUl, hUu]; rfl)) : P := h
end Go.Proofs.Ytjliakjbdcplcaa.Vm
end
section
open Go.Proofs.Ytjliakjbdcplcaa.Vm Go.RowKit
attribute [local push_cast] runR opG gtmp gval gus opX tmpsOf tm tmO tmP restr look look2 tab tys zs ets eqB eqBL allB numOf ieq Int.cast_ofNat_Int Int.ofNat_zero beq_true beq_false frameOf ev evL ofV opV loadV noW pushF wrsL setH allBorn allGone HB.born HB.isGone HB.val SV.plain dstOk hp nav fitsT SV.size sizeL SV.isAgg TK.size TK.agg bin binE binN binI arN arI cmpN cmpI keq kn narrow callV storeV setp fillV buildV buildSliceV makeV sliceV appendV appendFV slice3V copyV List.isEmpty_nil srcV evO asN ite_t ite_f ite_bool ite_int ite_nat maxV v_beq v_ble v_blt cond_true cond_false List.getElem?_cons_zero List.getElem?_cons_succ List.getD_cons_zero List.getD_cons_succ List.getD_nil List.length_cons List.length_nil List.take_succ_cons List.take_zero List.set_cons_zero List.set_cons_succ List.cons_append List.nil_append List.append_assoc List.replicate_succ List.replicate_zero Nat.zero_add Nat.add_zero decide_true decide_false Bool.true_and Bool.and_true Bool.false_and Bool.and_false Bool.true_or Bool.or_true Bool.false_or Bool.or_false beq_self_eq_true Bool.or_self Nat.lt_irrefl Nat.not_lt_zero Nat.le_refl Option.getD_some Option.getD_none BEq.rfl Bool.not_true Bool.not_false Bool.cond_true_left Bool.cond_false_right prS sndsS i64S nav_ins nav_ins0 nav_ins1 nav_ins2 nav_ins3 nav_ins4 nav_snd nav_snd0 nav_snd1 nav_snd2 isIns_insS insOf_insS isSnd_sndS sndOf_sndS isI_int isI_nat iOf
section
namespace Go.Proofs.Ytjliakjbdcplcaa.Vm
open Go.RowKit
set_option linter.unusedVariables false
set_option linter.unusedSimpArgs false
set_option maxRecDepth 100000
set_option maxHeartbeats 4000000
def sAllB (i : Nat) : Spec := fun args h m => match args with
  | [.agg [v1, v2, v3], .agg [v4, v5, v6, v7, v8, v9], v10] => match srcV h 5 (.tup []) v5, srcV h 1 (.tup []) v6, srcV h 1 (.tup []) v9, srcV h 5 (.tup []) v10 with
    | some (c5, n5, f5, r5), some (c6, n6, f6, r6), some (c9, n9, f9, r9), some (c10, n10, f10, r10) => bif isI .u64 v1 && isI .i64 v2 && isI .i64 v3 && isI .i64 v4 && isI .i64 v7 && isI .i64 v8 then some (c5 ∧ c6 ∧ c9 ∧ c10 ∧ (∀ q, q < n5 → isIns (f5 q) = true) ∧ (∀ q, q < n6 → isI .i64 (f6 q) = true) ∧ (∀ q, q < n9 → isI .i64 (f9 q) = true) ∧ (∀ q, q < n10 → isEvt (f10 q) = true) ∧ ((∀ x ∈ (ls insOf n5 f5), x.ok)) ∧ (n5 ≤ 1000000) ∧ (n6 ≤ 1000000) ∧ (n9 ≤ 1000000) ∧ (n10 ≤ 200) ∧ (i < (ls evtOf n10 f10).length) ∧ (procE ⟨(iOf v1), (iOf v2), (iOf v3)⟩ ⟨(iOf v4), (ls insOf n5 f5), (ls iOf n6 f6), (iOf v7), (iOf v8), (ls iOf n9 f9)⟩ = 0) ∧ ((∀ q, q < i → badAt ⟨(iOf v4), (ls insOf n5 f5), (ls iOf n6 f6), (iOf v7), (iOf v8), (ls iOf n9 f9)⟩ (ls evtOf n10 f10) q = 0)) ∧ (badAt ⟨(iOf v4), (ls insOf n5 f5), (ls iOf n6 f6), (iOf v7), (iOf v8), (ls iOf n9 f9)⟩ (ls evtOf n10 f10) i ≠ 0), .tup [dn0, .nat .i64 i, .int .i64 (badAt ⟨(iOf v4), (ls insOf n5 f5), (ls iOf n6 f6), (iOf v7), (iOf v8), (ls iOf n9 f9)⟩ (ls evtOf n10 f10) i)], r5 ++ r6 ++ r9 ++ r10, []) else none
    | _, _, _, _ => none
  | _ => none
theorem sAllB_ok (i : Nat) : CallOk Try.prog 32 (sAllB i) := by
  refine ⟨named_spec (by kernel_rfl), fun args h m c v rd wr hs hm hc w0 M β h' w R hrd hwr hst => ?_⟩
  unfold sAllB at hs
  split at hs
  · rename_i v1 v2 v3 v4 v5 v6 v7 v8 v9 v10
    split at hs
    · rename_i c5 n5 f5 r5 c6 n6 f6 r6 c9 n9 f9 r9 c10 n10 f10 r10 a5 a6 a9 a10
      obtain ⟨hb, hs⟩ := bif_some hs
      simp only [Option.some.injEq, Prod.mk.injEq] at hs
      obtain ⟨rfl, rfl, rfl, rfl⟩ := hs
      simp only [Bool.and_eq_true] at hb
      obtain ⟨⟨⟨⟨⟨b1, b2⟩, b3⟩, b4⟩, b7⟩, b8⟩ := hb
      obtain ⟨k5, k6, k9, k10, g5, g6, g9, g10, y1, y2, y3, y4, y5, y6, y7, y8, y9⟩ := hc
      obtain ⟨A5, p5, d5, e5, t5⟩ := reads_src R a5 k5 (fun i hi => hrd i (List.mem_append_left _ (List.mem_append_left _ (List.mem_append_left _ hi)))) (by omega)
      obtain ⟨A6, p6, d6, e6, t6⟩ := reads_src R a6 k6 (fun i hi => hrd i (List.mem_append_left _ (List.mem_append_left _ (List.mem_append_right _ hi)))) (by omega)
      obtain ⟨A9, p9, d9, e9, t9⟩ := reads_src R a9 k9 (fun i hi => hrd i (List.mem_append_left _ (List.mem_append_right _ hi))) (by omega)
      obtain ⟨A10, p10, d10, e10, t10⟩ := reads_src R a10 k10 (fun i hi => hrd i (List.mem_append_right _ hi)) (by omega)
      refine callRo (views := [⟨5, (ls insOf n5 f5).length, prS (ls insOf n5 f5), A5, p5⟩, ⟨1, (ls iOf n6 f6).length, i64S (ls iOf n6 f6), A6, p6⟩, ⟨1, (ls iOf n9 f9).length, i64S (ls iOf n9 f9), A9, p9⟩, ⟨5, (ls evtOf n10 f10).length, evtsS (ls evtOf n10 f10), A10, p10⟩]) (all_bad ⟨(iOf v1), (iOf v2), (iOf v3)⟩ ⟨(iOf v4), (ls insOf n5 f5), (ls iOf n6 f6), (iOf v7), (iOf v8), (ls iOf n9 f9)⟩ (ls evtOf n10 f10) p5 p6 p9 p10 y1 (by rw [ls_length]; exact y2) (by rw [ls_length]; exact y3) (by rw [ls_length]; exact y4) (by rw [ls_length]; exact y5) i y6 y7 y8 y9) ?_ R hm hwr ?_ ?_ ?_
      · intro x hx
        simp only [List.mem_cons, List.not_mem_nil, or_false] at hx
        rcases hx with rfl | rfl | rfl | rfl
        · exact viewIns t5 e5 g5
        · exact viewI64 t6 e6 g6
        · exact viewI64 t9 e9 g9
        · exact viewEvt t10 e10 g10
      · intro β1 hv
        simp only [Vd, ls_length, and_true] at hv
        obtain ⟨z5, z6, z9, z10⟩ := hv
        simp only [denL, aggDen, intDen, natDen, boolDen, ls_length, z5, z6, z9, z10, d5, d6, d9, d10, isI_den b1, isI_den b2, isI_den b3, isI_den b4, isI_den b7, isI_den b8]
      · exact Vm.b102
      · exact Vm.b102
    · cases hs
  · cases hs
def sAllF (i : Nat) : Spec := fun args h m => match args with
  | [.agg [v1, v2, v3], .agg [v4, v5, v6, v7, v8, v9], v10] => match srcV h 5 (.tup []) v5, srcV h 1 (.tup []) v6, srcV h 1 (.tup []) v9, srcV h 5 (.tup []) v10 with
    | some (c5, n5, f5, r5), some (c6, n6, f6, r6), some (c9, n9, f9, r9), some (c10, n10, f10, r10) => bif isI .u64 v1 && isI .i64 v2 && isI .i64 v3 && isI .i64 v4 && isI .i64 v7 && isI .i64 v8 then some (c5 ∧ c6 ∧ c9 ∧ c10 ∧ (∀ q, q < n5 → isIns (f5 q) = true) ∧ (∀ q, q < n6 → isI .i64 (f6 q) = true) ∧ (∀ q, q < n9 → isI .i64 (f9 q) = true) ∧ (∀ q, q < n10 → isEvt (f10 q) = true) ∧ ((∀ x ∈ (ls insOf n5 f5), x.ok)) ∧ (n5 ≤ 1000000) ∧ (n6 ≤ 1000000) ∧ (n9 ≤ 1000000) ∧ (n10 ≤ 200) ∧ (i < (ls evtOf n10 f10).length) ∧ (procE ⟨(iOf v1), (iOf v2), (iOf v3)⟩ ⟨(iOf v4), (ls insOf n5 f5), (ls iOf n6 f6), (iOf v7), (iOf v8), (ls iOf n9 f9)⟩ = 0) ∧ ((∀ q, q < (ls evtOf n10 f10).length → badAt ⟨(iOf v4), (ls insOf n5 f5), (ls iOf n6 f6), (iOf v7), (iOf v8), (ls iOf n9 f9)⟩ (ls evtOf n10 f10) q = 0)) ∧ (AllK ⟨(iOf v1), (iOf v2), (iOf v3)⟩ ⟨⟨(iOf v4), (ls insOf n5 f5), (ls iOf n6 f6), (iOf v7), (iOf v8), (ls iOf n9 f9)⟩, [], 0⟩ (ls evtOf n10 f10) i) ∧ (hE ⟨(iOf v1), (iOf v2), (iOf v3)⟩ (foldD ⟨(iOf v1), (iOf v2), (iOf v3)⟩ ⟨⟨(iOf v4), (ls insOf n5 f5), (ls iOf n6 f6), (iOf v7), (iOf v8), (ls iOf n9 f9)⟩, [], 0⟩ ((ls evtOf n10 f10).take i)).p ((ls evtOf n10 f10).getD i ⟨0, 0, 0, 0, 0⟩) ≠ 0), .tup [dn0, .nat .i64 i, .int .i64 (hE ⟨(iOf v1), (iOf v2), (iOf v3)⟩ (foldD ⟨(iOf v1), (iOf v2), (iOf v3)⟩ ⟨⟨(iOf v4), (ls insOf n5 f5), (ls iOf n6 f6), (iOf v7), (iOf v8), (ls iOf n9 f9)⟩, [], 0⟩ ((ls evtOf n10 f10).take i)).p ((ls evtOf n10 f10).getD i ⟨0, 0, 0, 0, 0⟩))], r5 ++ r6 ++ r9 ++ r10, []) else none
    | _, _, _, _ => none
  | _ => none
theorem sAllF_ok (i : Nat) : CallOk Try.prog 32 (sAllF i) := by
  refine ⟨named_spec (by kernel_rfl), fun args h m c v rd wr hs hm hc w0 M β h' w R hrd hwr hst => ?_⟩
  unfold sAllF at hs
  split at hs
  · rename_i v1 v2 v3 v4 v5 v6 v7 v8 v9 v10
    split at hs
    · rename_i c5 n5 f5 r5 c6 n6 f6 r6 c9 n9 f9 r9 c10 n10 f10 r10 a5 a6 a9 a10
      obtain ⟨hb, hs⟩ := bif_some hs
      simp only [Option.some.injEq, Prod.mk.injEq] at hs
      obtain ⟨rfl, rfl, rfl, rfl⟩ := hs
      simp only [Bool.and_eq_true] at hb
      obtain ⟨⟨⟨⟨⟨b1, b2⟩, b3⟩, b4⟩, b7⟩, b8⟩ := hb
      obtain ⟨k5, k6, k9, k10, g5, g6, g9, g10, y1, y2, y3, y4, y5, y6, y7, y8, y9, y10⟩ := hc
      obtain ⟨A5, p5, d5, e5, t5⟩ := reads_src R a5 k5 (fun i hi => hrd i (List.mem_append_left _ (List.mem_append_left _ (List.mem_append_left _ hi)))) (by omega)
      obtain ⟨A6, p6, d6, e6, t6⟩ := reads_src R a6 k6 (fun i hi => hrd i (List.mem_append_left _ (List.mem_append_left _ (List.mem_append_right _ hi)))) (by omega)
      obtain ⟨A9, p9, d9, e9, t9⟩ := reads_src R a9 k9 (fun i hi => hrd i (List.mem_append_left _ (List.mem_append_right _ hi))) (by omega)
      obtain ⟨A10, p10, d10, e10, t10⟩ := reads_src R a10 k10 (fun i hi => hrd i (List.mem_append_right _ hi)) (by omega)
      refine callRo (views := [⟨5, (ls insOf n5 f5).length, prS (ls insOf n5 f5), A5, p5⟩, ⟨1, (ls iOf n6 f6).length, i64S (ls iOf n6 f6), A6, p6⟩, ⟨1, (ls iOf n9 f9).length, i64S (ls iOf n9 f9), A9, p9⟩, ⟨5, (ls evtOf n10 f10).length, evtsS (ls evtOf n10 f10), A10, p10⟩]) (all_fail ⟨(iOf v1), (iOf v2), (iOf v3)⟩ ⟨(iOf v4), (ls insOf n5 f5), (ls iOf n6 f6), (iOf v7), (iOf v8), (ls iOf n9 f9)⟩ (ls evtOf n10 f10) p5 p6 p9 p10 y1 (by rw [ls_length]; exact y2) (by rw [ls_length]; exact y3) (by rw [ls_length]; exact y4) (by rw [ls_length]; exact y5) y7 y8 i y6 y9 y10) ?_ R hm hwr ?_ ?_ ?_
      · intro x hx
        simp only [List.mem_cons, List.not_mem_nil, or_false] at hx
        rcases hx with rfl | rfl | rfl | rfl
        · exact viewIns t5 e5 g5
        · exact viewI64 t6 e6 g6
        · exact viewI64 t9 e9 g9
        · exact viewEvt t10 e10 g10
      · intro β1 hv
        simp only [Vd, ls_length, and_true] at hv
        obtain ⟨z5, z6, z9, z10⟩ := hv
        simp only [denL, aggDen, intDen, natDen, boolDen, ls_length, z5, z6, z9, z10, d5, d6, d9, d10, isI_den b1, isI_den b2, isI_den b3, isI_den b4, isI_den b7, isI_den b8]
      · exact Vm.b102
      · exact Vm.b102
    · cases hs
  · cases hs
def sAllG : Spec := fun args h m => match args with
  | [.agg [v1, v2, v3], .agg [v4, v5, v6, v7, v8, v9], v10] => match srcV h 5 (.tup []) v5, srcV h 1 (.tup []) v6, srcV h 1 (.tup []) v9, srcV h 5 (.tup []) v10 with
    | some (c5, n5, f5, r5), some (c6, n6, f6, r6), some (c9, n9, f9, r9), some (c10, n10, f10, r10) => bif isI .u64 v1 && isI .i64 v2 && isI .i64 v3 && isI .i64 v4 && isI .i64 v7 && isI .i64 v8 then some (c5 ∧ c6 ∧ c9 ∧ c10 ∧ (∀ q, q < n5 → isIns (f5 q) = true) ∧ (∀ q, q < n6 → isI .i64 (f6 q) = true) ∧ (∀ q, q < n9 → isI .i64 (f9 q) = true) ∧ (∀ q, q < n10 → isEvt (f10 q) = true) ∧ ((∀ x ∈ (ls insOf n5 f5), x.ok)) ∧ (n5 ≤ 1000000) ∧ (n6 ≤ 1000000) ∧ (n9 ≤ 1000000) ∧ (n10 ≤ 200) ∧ (procE ⟨(iOf v1), (iOf v2), (iOf v3)⟩ ⟨(iOf v4), (ls insOf n5 f5), (ls iOf n6 f6), (iOf v7), (iOf v8), (ls iOf n9 f9)⟩ = 0) ∧ ((∀ q, q < (ls evtOf n10 f10).length → badAt ⟨(iOf v4), (ls insOf n5 f5), (ls iOf n6 f6), (iOf v7), (iOf v8), (ls iOf n9 f9)⟩ (ls evtOf n10 f10) q = 0)) ∧ (AllK ⟨(iOf v1), (iOf v2), (iOf v3)⟩ ⟨⟨(iOf v4), (ls insOf n5 f5), (ls iOf n6 f6), (iOf v7), (iOf v8), (ls iOf n9 f9)⟩, [], 0⟩ (ls evtOf n10 f10) (ls evtOf n10 f10).length), .tup [dnS (foldD ⟨(iOf v1), (iOf v2), (iOf v3)⟩ ⟨⟨(iOf v4), (ls insOf n5 f5), (ls iOf n6 f6), (iOf v7), (iOf v8), (ls iOf n9 f9)⟩, [], 0⟩ (ls evtOf n10 f10)) m (m + 1) (m + 2) (m + 3), .int .i64 (-1), .int .i64 0], r5 ++ r6 ++ r9 ++ r10, [(m, prO (foldD ⟨(iOf v1), (iOf v2), (iOf v3)⟩ ⟨⟨(iOf v4), (ls insOf n5 f5), (ls iOf n6 f6), (iOf v7), (iOf v8), (ls iOf n9 f9)⟩, [], 0⟩ (ls evtOf n10 f10)).p.P), (m + 1, i64O (foldD ⟨(iOf v1), (iOf v2), (iOf v3)⟩ ⟨⟨(iOf v4), (ls insOf n5 f5), (ls iOf n6 f6), (iOf v7), (iOf v8), (ls iOf n9 f9)⟩, [], 0⟩ (ls evtOf n10 f10)).p.cells), (m + 2, inO (foldD ⟨(iOf v1), (iOf v2), (iOf v3)⟩ ⟨⟨(iOf v4), (ls insOf n5 f5), (ls iOf n6 f6), (iOf v7), (iOf v8), (ls iOf n9 f9)⟩, [], 0⟩ (ls evtOf n10 f10)).p.ports), (m + 3, evO_ (foldD ⟨(iOf v1), (iOf v2), (iOf v3)⟩ ⟨⟨(iOf v4), (ls insOf n5 f5), (ls iOf n6 f6), (iOf v7), (iOf v8), (ls iOf n9 f9)⟩, [], 0⟩ (ls evtOf n10 f10)).sent)]) else none
    | _, _, _, _ => none
  | _ => none
theorem sAllG_ok : CallOk Try.prog 32 sAllG := by
  refine ⟨named_spec (by kernel_rfl), fun args h m c v rd wr hs hm hc w0 M β h' w R hrd hwr hst => ?_⟩
  unfold sAllG at hs
  split at hs
  · rename_i v1 v2 v3 v4 v5 v6 v7 v8 v9 v10
    split at hs
    · rename_i c5 n5 f5 r5 c6 n6 f6 r6 c9 n9 f9 r9 c10 n10 f10 r10 a5 a6 a9 a10
      obtain ⟨hb, hs⟩ := bif_some hs
      simp only [Option.some.injEq, Prod.mk.injEq] at hs
      obtain ⟨rfl, rfl, rfl, rfl⟩ := hs
      simp only [Bool.and_eq_true] at hb
      obtain ⟨⟨⟨⟨⟨b1, b2⟩, b3⟩, b4⟩, b7⟩, b8⟩ := hb
      obtain ⟨k5, k6, k9, k10, g5, g6, g9, g10, y1, y2, y3, y4, y5, y6, y7, y8⟩ := hc
      obtain ⟨A5, p5, d5, e5, t5⟩ := reads_src R a5 k5 (fun i hi => hrd i (List.mem_append_left _ (List.mem_append_left _ (List.mem_append_left _ hi)))) (by omega)
      obtain ⟨A6, p6, d6, e6, t6⟩ := reads_src R a6 k6 (fun i hi => hrd i (List.mem_append_left _ (List.mem_append_left _ (List.mem_append_right _ hi)))) (by omega)
      obtain ⟨A9, p9, d9, e9, t9⟩ := reads_src R a9 k9 (fun i hi => hrd i (List.mem_append_left _ (List.mem_append_right _ hi))) (by omega)
      obtain ⟨A10, p10, d10, e10, t10⟩ := reads_src R a10 k10 (fun i hi => hrd i (List.mem_append_right _ hi)) (by omega)
      refine callRo (views := [⟨5, (ls insOf n5 f5).length, prS (ls insOf n5 f5), A5, p5⟩, ⟨1, (ls iOf n6 f6).length, i64S (ls iOf n6 f6), A6, p6⟩, ⟨1, (ls iOf n9 f9).length, i64S (ls iOf n9 f9), A9, p9⟩, ⟨5, (ls evtOf n10 f10).length, evtsS (ls evtOf n10 f10), A10, p10⟩]) (all_ok ⟨(iOf v1), (iOf v2), (iOf v3)⟩ ⟨(iOf v4), (ls insOf n5 f5), (ls iOf n6 f6), (iOf v7), (iOf v8), (ls iOf n9 f9)⟩ (ls evtOf n10 f10) p5 p6 p9 p10 y1 (by rw [ls_length]; exact y2) (by rw [ls_length]; exact y3) (by rw [ls_length]; exact y4) (by rw [ls_length]; exact y5) y6 y7 y8) ?_ R hm hwr ?_ ?_ ?_
      · intro x hx
        simp only [List.mem_cons, List.not_mem_nil, or_false] at hx
        rcases hx with rfl | rfl | rfl | rfl
        · exact viewIns t5 e5 g5
        · exact viewI64 t6 e6 g6
        · exact viewI64 t9 e9 g9
        · exact viewEvt t10 e10 g10
      · intro β1 hv
        simp only [Vd, ls_length, and_true] at hv
        obtain ⟨z5, z6, z9, z10⟩ := hv
        simp only [denL, aggDen, intDen, natDen, boolDen, ls_length, z5, z6, z9, z10, d5, d6, d9, d10, isI_den b1, isI_den b2, isI_den b3, isI_den b4, isI_den b7, isI_den b8]
      · exact Vm.b102
      · exact Vm.b102
    · cases hs
  · cases hs
def cNw28 : FuncId → Option Spec := look2 [(43, sClI), (61, sClN), (62, sPRight)]
theorem cNw28_ok : ∀ f S, cNw28 f = some S → CallOk Try.prog f S := allOk_spec ⟨sClI_ok, sClN_ok, sPRight_ok, trivial⟩
def newP (id : Int) (P : List Ins) (c : Nat) (ps : List Int) : Prc := ⟨id, P, List.replicate c 0, 0, 0, ps⟩
def pc0 : SV := .agg [.nat .i64 0, .sl 0 0 [] 0 0 0 (some 0), .sl 0 0 [] 0 0 0 (some 0), .nat .i64 0, .nat .i64 0, .sl 0 0 [] 0 0 0 (some 0)]
theorem ls_zero_rep (n : Nat) : ls iOf n (fun _ => SV.nat .i64 0) = List.replicate n 0 := by
  unfold ls
  simp [iOf, List.map_const']
theorem less_rep {t n : Nat} {σ : Nat → Nat} : Less (.own t (.arr n 1 fun _ => .nat .i64 0) false) ((HB.own t (.arr (List.replicate n (0 : Int)).length 1 (i64S (List.replicate n 0))) false).ren σ) := by
  rw [List.length_replicate]
  have e : (HB.own t (.arr n 1 (i64S (List.replicate n 0))) false).ren σ = .own t (.arr n 1 (i64S (List.replicate n 0))) false := rfl
  rw [e]
  exact .val (fun β => arrCl fun q hq => by
      unfold i64S
      rw [List.getD_eq_getElem?_getD, List.getElem?_eq_getElem (by simpa using hq)]
      simp; rfl) (fun n1 k1 f1 e => by injection e with e1 e2 e3; subst e1 e2; exact ⟨_, rfl⟩) (fun n1 k1 f1 e => by injection e with e1 e2 e3; subst e1 e2; exact ⟨_, rfl⟩)
theorem new_ok (id : Int) (c : Nat) (P : List Ins) (ps : List Int) (p1 p2 : Nat) (hok : ∀ x ∈ P, x.ok) (hn : P.length ≤ 1000000) (hpo : ps.length ≤ 1000000) (c1 : c ≤ 1024) (hr : (newP id P c ps).rightB = true) : LitOk Try.prog 34 [.int .i64 id, .sl 1 2 [] 5 0 P.length (some p1), .nat .i64 c, .sl 3 4 [] 1 0 ps.length (some p2)] [.gone, .gone, .ro (.arr P.length 5 (prS P)), .gone, .ro (.arr ps.length 1 (i64S ps))] (.tup [pcS (newP id P c ps) 5 6 7, .int .i64 0]) [.gone, .gone, .gone, .gone, .gone, prO P, i64O (newP id P c ps).cells, inO ps] := by
  have h2 : ¬ 1024 < c := by omega
  have hr' : Prc.rightB ⟨id, P, List.replicate c 0, 0, 0, ps⟩ = true := hr
  refine litOkM (fn := Try.f34) 5 31 0 rfl rfl rfl rfl rfl (by simp only [StableL, Stable, hp, pcS, dnB, DnI.at_, dnS, dnR, i64S, prS, insS, sndsS, sndS, evtsS, evtS, prO, i64O, inO, evO_, cB, sB, HB.stable]; simp [HB.born]) rfl fun w0 M E hro => ?_
  repeat' (first | refine Ctl.h ?_ | ((with_reducible intro hif); first | (focus (cases hif; done)) | (simp only [JH] at hif; try (exfalso; omega)) | (try (exfalso; omega))) | ((first | ((with_reducible apply J22 cNw28_ok tab_ok); (· rfl)) | ((with_reducible apply J23 fol cNw28_ok tab_ok); (· rfl)) | with_reducible apply J24); (· (simp only [push_cast, ↓JP, Nat.reduceAdd, Nat.reduceEqDiff, Nat.reduceLT, Nat.reduceMul, Nat.reduceLeDiff, reduceCtorEq, reduceIte, ↓JK, JE, prc_eta, cNw28, sClI, sClN, sPRight, inR, inN, ls_zero_rep, prO, i64O, inO, pc0, h2, hr']; rfl)); (try kernel_rfl); (try (focus (first | exact True.intro | ((try simp only [JS, implies_true, forall_const, shaped, shapedL, kndOf, ls_prS, ls_prS', ls_i64S', ls_i64S, ls_length, prc_eta, iOf]); (repeat' (first | exact True.intro | assumption | omega | apply And.intro | rfl | decide | intro _)); done) | ((try simp only [JS, implies_true, forall_const, shaped, shapedL, kndOf, inR, inN]); (repeat' (first | assumption | exact True.intro | omega | apply And.intro)); done))))) | fail)
  refine At.put 7 (.own 2 (.arr c 1 fun _ => .nat .i64 0) false) .loose (fun q => trivial) rfl rfl ?_
  simp only [setH]
  apply At.endsPick [0, 1, 2, 3, 4, 6, 7, 8] tab_ok (fn := Try.f34) (rs := [.cell 8 82, .tmp 9]) Anc.refl hro (Nat.le_of_ble_eq_true rfl) rfl
  · exact Vm.b18
  · exact Vm.b24
  · rfl
  · rfl
  · rfl
  · (repeat' (first | exact trivial | exact .inl rfl | exact .inr (.same _) | exact .inr .loose | exact .inr (.arr (by assumption)) | apply And.intro | exact .inr less_rep))
  · rfl
  · exact Vm.b102
  · exact Vm.b10
  · intro β; simp only [pcS, newP, List.length_replicate]; rfl
  · exact Vm.b102
def sNewPG : Spec := fun args h m => match args with
  | [v1, v2, .nat q3 v3, v4] => match srcV h 5 (.tup []) v2, srcV h 1 (.tup []) v4 with
    | some (c2, n2, f2, r2), some (c4, n4, f4, r4) => bif isI .i64 v1 && keq q3 .i64 then some (c2 ∧ c4 ∧ (∀ q, q < n2 → isIns (f2 q) = true) ∧ (∀ q, q < n4 → isI .i64 (f4 q) = true) ∧ ((∀ x ∈ (ls insOf n2 f2), x.ok)) ∧ (n2 ≤ 1000000) ∧ (n4 ≤ 1000000) ∧ (v3 ≤ 1024) ∧ ((newP (iOf v1) (ls insOf n2 f2) v3 (ls iOf n4 f4)).rightB = true), .tup [pcS (newP (iOf v1) (ls insOf n2 f2) v3 (ls iOf n4 f4)) m (m + 1) (m + 2), .int .i64 0], r2 ++ r4, [(m, prO (ls insOf n2 f2)), (m + 1, i64O (newP (iOf v1) (ls insOf n2 f2) v3 (ls iOf n4 f4)).cells), (m + 2, inO (ls iOf n4 f4))]) else none
    | _, _ => none
  | _ => none
theorem sNewPG_ok : CallOk Try.prog 34 sNewPG := by
  refine ⟨named_spec (by kernel_rfl), fun args h m c v rd wr hs hm hc w0 M β h' w R hrd hwr hst => ?_⟩
  unfold sNewPG at hs
  split at hs
  · rename_i v1 v2 q3 v3 v4
    split at hs
    · rename_i c2 n2 f2 r2 c4 n4 f4 r4 a2 a4
      obtain ⟨hb, hs⟩ := bif_some hs
      simp only [Option.some.injEq, Prod.mk.injEq] at hs
      obtain ⟨rfl, rfl, rfl, rfl⟩ := hs
      simp only [Bool.and_eq_true] at hb
      obtain ⟨b1, b3⟩ := hb
      have w3 := keq_eq b3
      subst w3
      obtain ⟨k2, k4, g2, g4, y1, y2, y3, y4, y5⟩ := hc
      obtain ⟨A2, p2, d2, e2, t2⟩ := reads_src R a2 k2 (fun i hi => hrd i (List.mem_append_left _ hi)) (by omega)
      obtain ⟨A4, p4, d4, e4, t4⟩ := reads_src R a4 k4 (fun i hi => hrd i (List.mem_append_right _ hi)) (by omega)
      refine callRo (views := [⟨5, (ls insOf n2 f2).length, prS (ls insOf n2 f2), A2, p2⟩, ⟨1, (ls iOf n4 f4).length, i64S (ls iOf n4 f4), A4, p4⟩]) (new_ok (iOf v1) v3 (ls insOf n2 f2) (ls iOf n4 f4) p2 p4 y1 (by rw [ls_length]; exact y2) (by rw [ls_length]; exact y3) y4 y5) ?_ R hm hwr ?_ ?_ ?_
      · intro x hx
        simp only [List.mem_cons, List.not_mem_nil, or_false] at hx
        rcases hx with rfl | rfl
        · exact viewIns t2 e2 g2
        · exact viewI64 t4 e4 g4
      · intro β1 hv
        simp only [Vd, ls_length, and_true] at hv
        obtain ⟨z2, z4⟩ := hv
        simp only [denL, aggDen, intDen, natDen, boolDen, ls_length, z2, z4, d2, d4, isI_den b1]
      · exact Vm.b102
      · exact Vm.b102
    · cases hs
  · cases hs
theorem ls_evtsS2 (l : List Evt) : ls evtOf l.length (fun q => evtS (l.getD q ⟨0, 0, 0, 0, 0⟩)) = l := ls_evtsS l
def cSev : FuncId → Option Spec := look2 [(88, sSmEvt)]
theorem cSev_ok : ∀ f S, cSev f = some S → CallOk Try.prog f S := allOk_spec ⟨sSmEvt_ok, trivial⟩
theorem sev_lit (xs ys : List Evt) (p1 p2 : Nat) (hx : xs.length ≤ 281474976710656) : LitOk Try.prog 60 [.sl 1 2 [] 5 0 xs.length (some p1), .sl 3 4 [] 5 0 ys.length (some p2)] [.gone, .gone, .ro (.arr xs.length 5 (evtsS xs)), .gone, .ro (.arr ys.length 5 (evtsS ys))] (.bool (eqL xs ys)) [.gone] := by
  refine litOkM (fn := Try.f60) 5 8 0 rfl rfl rfl rfl rfl (by simp only [StableL, Stable, hp, pcS, dnB, DnI.at_, dnS, dnR, i64S, prS, insS, sndsS, sndS, evtsS, evtS, prO, i64O, inO, evO_, cB, sB, HB.stable]; simp [HB.born]) rfl fun w0 M E hro => ?_
  repeat' (first | refine Ctl.h ?_ | ((with_reducible intro hif); first | (focus (cases hif; done)) | (simp only [JH] at hif; try (exfalso; omega)) | (try (exfalso; omega))) | ((first | ((with_reducible apply J22 cSev_ok tab_ok); (· rfl)) | ((with_reducible apply J23 fol cSev_ok tab_ok); (· rfl)) | with_reducible apply J24); (· (simp only [push_cast, ↓JP, Nat.reduceAdd, Nat.reduceEqDiff, Nat.reduceLT, Nat.reduceMul, Nat.reduceLeDiff, reduceCtorEq, reduceIte, ↓JK, cSev, sSmEvt, isEvt_evtS, ls_evtsS, ls_evtsS', ls_evtsS2, evtsS, inR, inN]; rfl)); (try kernel_rfl); (try (focus (first | exact True.intro | ((try simp only [JS, implies_true, ls_evtsS, ls_evtsS', ls_length]); (repeat' (first | exact True.intro | assumption | omega | apply And.intro | rfl | intro _)); done) | ((try simp only [JS, implies_true, forall_const, shaped, shapedL, kndOf, inR, inN]); (repeat' (first | assumption | exact True.intro | omega | apply And.intro)); done))))) | fail)
  apply At.endsRet tab_ok (fn := Try.f60) (rs := [.tmp 4]) Anc.refl hro (Nat.le_of_ble_eq_true rfl) rfl
  · exact Vm.b18
  · exact Vm.b7
  · exact Vm.b8
  · rfl
  · exact Vm.b102
  · exact Vm.b10
  · exact fun β => rfl
  · exact Vm.b102
def sSev : Spec := fun args h m => match args with
  | [v1, v2] => match srcV h 5 (.tup []) v1, srcV h 5 (.tup []) v2 with
    | some (c1, n1, f1, r1), some (c2, n2, f2, r2) => some (c1 ∧ c2 ∧ (∀ q, q < n1 → isEvt (f1 q) = true) ∧ (∀ q, q < n2 → isEvt (f2 q) = true) ∧ ((ls evtOf n1 f1).length ≤ 281474976710656), .bool (eqL (ls evtOf n1 f1) (ls evtOf n2 f2)), r1 ++ r2, [])
    | _, _ => none
  | _ => none
theorem sSev_ok : CallOk Try.prog 60 sSev := by
  refine ⟨named_spec (by kernel_rfl), fun args h m c v rd wr hs hm hc w0 M β h' w R hrd hwr hst => ?_⟩
  unfold sSev at hs
  split at hs
  · rename_i v1 v2
    split at hs
    · rename_i c1 n1 f1 r1 c2 n2 f2 r2 a1 a2
      simp only [Option.some.injEq, Prod.mk.injEq] at hs
      obtain ⟨rfl, rfl, rfl, rfl⟩ := hs
      obtain ⟨k1, k2, g1, g2, y1⟩ := hc
      obtain ⟨A1, p1, d1, e1, t1⟩ := reads_src R a1 k1 (fun i hi => hrd i (List.mem_append_left _ hi)) (by omega)
      obtain ⟨A2, p2, d2, e2, t2⟩ := reads_src R a2 k2 (fun i hi => hrd i (List.mem_append_right _ hi)) (by omega)
      refine callRo (views := [⟨5, (ls evtOf n1 f1).length, evtsS (ls evtOf n1 f1), A1, p1⟩, ⟨5, (ls evtOf n2 f2).length, evtsS (ls evtOf n2 f2), A2, p2⟩]) (sev_lit (ls evtOf n1 f1) (ls evtOf n2 f2) p1 p2 y1) ?_ R hm hwr ?_ ?_ ?_
      · intro x hx
        simp only [List.mem_cons, List.not_mem_nil, or_false] at hx
        rcases hx with rfl | rfl
        · exact viewEvt t1 e1 g1
        · exact viewEvt t2 e2 g2
      · intro β1 hv
        simp only [Vd, ls_length, and_true] at hv
        obtain ⟨z1, z2⟩ := hv
        simp only [denL, aggDen, intDen, natDen, boolDen, ls_length, z1, z2, d1, d2]
      · exact Vm.b102
      · exact Vm.b102
    · cases hs
  · cases hs
def cEq28 : FuncId → Option Spec := look2 [(59, sPSame), (60, sSev)]
theorem cEq28_ok : ∀ f S, cEq28 f = some S → CallOk Try.prog f S := allOk_spec ⟨sPSame_ok, sSev_ok, trivial⟩
def eqD (a : Prc) (as_ : List Evt) (au : Int) (b : Prc) (bs : List Evt) (bu : Int) : Bool := eqP a b && (eqL as_ bs && decide (au = bu))
theorem eq28_lit (a b : Prc) (as_ bs : List Evt) (au bu : Int) (p1 p2 p3 p4 q1 q2 q3 q4 : Nat) (hn : a.P.length ≤ 1000000) (hc : a.cells.length ≤ 1000000) (hpo : a.ports.length ≤ 1000000) (hs : as_.length ≤ 1000000) : LitOk Try.prog 33 [.agg [.agg [.int .i64 a.id, .sl 1 2 [] 5 0 a.P.length (some p1), .sl 3 4 [] 1 0 a.cells.length (some p2), .int .i64 a.draws, .int .i64 a.seq, .sl 5 6 [] 1 0 a.ports.length (some p3)], .sl 7 8 [] 5 0 as_.length (some p4), .int .i64 au], .agg [.agg [.int .i64 b.id, .sl 9 10 [] 5 0 b.P.length (some q1), .sl 11 12 [] 1 0 b.cells.length (some q2), .int .i64 b.draws, .int .i64 b.seq, .sl 13 14 [] 1 0 b.ports.length (some q3)], .sl 15 16 [] 5 0 bs.length (some q4), .int .i64 bu]]
    [.gone, .gone, .ro (.arr a.P.length 5 (prS a.P)), .gone, .ro (.arr a.cells.length 1 (i64S a.cells)), .gone, .ro (.arr a.ports.length 1 (i64S a.ports)), .gone, .ro (.arr as_.length 5 (evtsS as_)), .gone, .ro (.arr b.P.length 5 (prS b.P)), .gone, .ro (.arr b.cells.length 1 (i64S b.cells)), .gone, .ro (.arr b.ports.length 1 (i64S b.ports)), .gone, .ro (.arr bs.length 5 (evtsS bs))] (.bool (eqD a as_ au b bs bu)) [.gone] := by
  have hs2 : as_.length ≤ 281474976710656 := by omega
  cases q1 : eqP a b
  · skip
    have e : eqD a as_ au b bs bu = false := by simp [eqD, q1]
    rw [e]
    refine litOkM (fn := Try.f33) 17 24 0 rfl rfl rfl rfl rfl (by simp only [StableL, Stable, hp, pcS, dnB, DnI.at_, dnS, dnR, i64S, prS, insS, sndsS, sndS, evtsS, evtS, prO, i64O, inO, evO_, cB, sB, HB.stable]; simp [HB.born]) rfl fun w0 M E hro => ?_
    repeat' (first | refine Ctl.h ?_ | ((with_reducible intro hif); first | (focus (cases hif; done)) | (simp only [JH] at hif; try (exfalso; omega)) | (try (exfalso; omega))) | ((first | ((with_reducible apply J22 cEq28_ok tab_ok); (· rfl)) | ((with_reducible apply J23 fol cEq28_ok tab_ok); (· rfl)) | with_reducible apply J24); (· (simp only [push_cast, ↓JP, Nat.reduceAdd, Nat.reduceEqDiff, Nat.reduceLT, Nat.reduceMul, Nat.reduceLeDiff, reduceCtorEq, reduceIte, ↓JK, JE, prc_eta, cEq28, sPSame, sSev, isEvt_evtS, ls_evtsS, ls_evtsS', ls_evtsS2, evtsS, inR, inN, q1]; rfl)); (try kernel_rfl); (try exact Vm.b129)) | fail)
    apply At.endsRet tab_ok (fn := Try.f33) (rs := [.tmp 4]) Anc.refl hro (Nat.le_of_ble_eq_true rfl) rfl
    · exact Vm.b18
    · exact Vm.b7
    · exact Vm.b8
    · rfl
    · exact Vm.b102
    · exact Vm.b10
    · exact fun β => rfl
    · exact Vm.b102
  · cases q2 : eqL as_ bs
    · skip
      have e : eqD a as_ au b bs bu = false := by simp [eqD, q1, q2]
      rw [e]
      refine litOkM (fn := Try.f33) 17 24 0 rfl rfl rfl rfl rfl (by simp only [StableL, Stable, hp, pcS, dnB, DnI.at_, dnS, dnR, i64S, prS, insS, sndsS, sndS, evtsS, evtS, prO, i64O, inO, evO_, cB, sB, HB.stable]; simp [HB.born]) rfl fun w0 M E hro => ?_
      repeat' (first | refine Ctl.h ?_ | ((with_reducible intro hif); first | (focus (cases hif; done)) | (simp only [JH] at hif; try (exfalso; omega)) | (try (exfalso; omega))) | ((first | ((with_reducible apply J22 cEq28_ok tab_ok); (· rfl)) | ((with_reducible apply J23 fol cEq28_ok tab_ok); (· rfl)) | with_reducible apply J24); (· exact Vm.b130); (try kernel_rfl); (try exact Vm.b129)) | fail)
      apply At.endsRet tab_ok (fn := Try.f33) (rs := [.tmp 4]) Anc.refl hro (Nat.le_of_ble_eq_true rfl) rfl
      · exact Vm.b18
      · exact Vm.b7
      · exact Vm.b8
      · rfl
      · exact Vm.b102
      · exact Vm.b10
      · exact fun β => rfl
      · exact Vm.b102
    · skip
      have e : eqD a as_ au b bs bu = decide (au = bu) := by simp [eqD, q1, q2]
      rw [e]
      refine litOkM (fn := Try.f33) 17 24 0 rfl rfl rfl rfl rfl (by simp only [StableL, Stable, hp, pcS, dnB, DnI.at_, dnS, dnR, i64S, prS, insS, sndsS, sndS, evtsS, evtS, prO, i64O, inO, evO_, cB, sB, HB.stable]; simp [HB.born]) rfl fun w0 M E hro => ?_
      repeat' (first | refine Ctl.h ?_ | ((with_reducible intro hif); first | (focus (cases hif; done)) | (simp only [JH] at hif; try (exfalso; omega)) | (try (exfalso; omega))) | ((first | ((with_reducible apply J22 cEq28_ok tab_ok); (· rfl)) | ((with_reducible apply J23 fol cEq28_ok tab_ok); (· rfl)) | with_reducible apply J24); (· exact Vm.b130); (try kernel_rfl); (try exact Vm.b129)) | fail)
      apply At.endsRet tab_ok (fn := Try.f33) (rs := [.tmp 4]) Anc.refl hro (Nat.le_of_ble_eq_true rfl) rfl
      · exact Vm.b18
      · exact Vm.b7
      · exact Vm.b8
      · rfl
      · exact Vm.b102
      · exact Vm.b10
      · exact fun β => rfl
      · exact Vm.b102
def sEq28 : Spec := fun args h m => match args with
  | [.agg [.agg [v1, v2, v3, v4, v5, v6], v7, v8], .agg [.agg [v9, v10, v11, v12, v13, v14], v15, v16]] => match srcV h 5 (.tup []) v2, srcV h 1 (.tup []) v3, srcV h 1 (.tup []) v6, srcV h 5 (.tup []) v7, srcV h 5 (.tup []) v10, srcV h 1 (.tup []) v11, srcV h 1 (.tup []) v14, srcV h 5 (.tup []) v15 with
    | some (c2, n2, f2, r2), some (c3, n3, f3, r3), some (c6, n6, f6, r6), some (c7, n7, f7, r7), some (c10, n10, f10, r10), some (c11, n11, f11, r11), some (c14, n14, f14, r14), some (c15, n15, f15, r15) => bif isI .i64 v1 && isI .i64 v4 && isI .i64 v5 && isI .i64 v8 && isI .i64 v9 && isI .i64 v12 && isI .i64 v13 && isI .i64 v16 then some (c2 ∧ c3 ∧ c6 ∧ c7 ∧ c10 ∧ c11 ∧ c14 ∧ c15 ∧ (∀ q, q < n2 → isIns (f2 q) = true) ∧ (∀ q, q < n3 → isI .i64 (f3 q) = true) ∧ (∀ q, q < n6 → isI .i64 (f6 q) = true) ∧ (∀ q, q < n7 → isEvt (f7 q) = true) ∧ (∀ q, q < n10 → isIns (f10 q) = true) ∧ (∀ q, q < n11 → isI .i64 (f11 q) = true) ∧ (∀ q, q < n14 → isI .i64 (f14 q) = true) ∧ (∀ q, q < n15 → isEvt (f15 q) = true) ∧ (n2 ≤ 1000000) ∧ (n3 ≤ 1000000) ∧ (n6 ≤ 1000000) ∧ (n7 ≤ 1000000), .bool (eqD ⟨(iOf v1), (ls insOf n2 f2), (ls iOf n3 f3), (iOf v4), (iOf v5), (ls iOf n6 f6)⟩ (ls evtOf n7 f7) (iOf v8) ⟨(iOf v9), (ls insOf n10 f10), (ls iOf n11 f11), (iOf v12), (iOf v13), (ls iOf n14 f14)⟩ (ls evtOf n15 f15) (iOf v16)), r2 ++ r3 ++ r6 ++ r7 ++ r10 ++ r11 ++ r14 ++ r15, []) else none
    | _, _, _, _, _, _, _, _ => none
  | _ => none
theorem sEq28_ok : CallOk Try.prog 33 sEq28 := by
  refine ⟨named_spec (by kernel_rfl), fun args h m c v rd wr hs hm hc w0 M β h' w R hrd hwr hst => ?_⟩
  unfold sEq28 at hs
  split at hs
  · rename_i v1 v2 v3 v4 v5 v6 v7 v8 v9 v10 v11 v12 v13 v14 v15 v16
    split at hs
    · rename_i c2 n2 f2 r2 c3 n3 f3 r3 c6 n6 f6 r6 c7 n7 f7 r7 c10 n10 f10 r10 c11 n11 f11 r11 c14 n14 f14 r14 c15 n15 f15 r15 a2 a3 a6 a7 a10 a11 a14 a15
      obtain ⟨hb, hs⟩ := bif_some hs
      simp only [Option.some.injEq, Prod.mk.injEq] at hs
      obtain ⟨rfl, rfl, rfl, rfl⟩ := hs
      simp only [Bool.and_eq_true] at hb
      obtain ⟨⟨⟨⟨⟨⟨⟨b1, b4⟩, b5⟩, b8⟩, b9⟩, b12⟩, b13⟩, b16⟩ := hb
      obtain ⟨k2, k3, k6, k7, k10, k11, k14, k15, g2, g3, g6, g7, g10, g11, g14, g15, y1, y2, y3, y4⟩ := hc
      obtain ⟨A2, p2, d2, e2, t2⟩ := reads_src R a2 k2 (fun i hi => hrd i (List.mem_append_left _ (List.mem_append_left _ (List.mem_append_left _ (List.mem_append_left _ (List.mem_append_left _ (List.mem_append_left _ (List.mem_append_left _ hi)))))))) (by omega)
      obtain ⟨A3, p3, d3, e3, t3⟩ := reads_src R a3 k3 (fun i hi => hrd i (List.mem_append_left _ (List.mem_append_left _ (List.mem_append_left _ (List.mem_append_left _ (List.mem_append_left _ (List.mem_append_left _ (List.mem_append_right _ hi)))))))) (by omega)
      obtain ⟨A6, p6, d6, e6, t6⟩ := reads_src R a6 k6 (fun i hi => hrd i (List.mem_append_left _ (List.mem_append_left _ (List.mem_append_left _ (List.mem_append_left _ (List.mem_append_left _ (List.mem_append_right _ hi))))))) (by omega)
      obtain ⟨A7, p7, d7, e7, t7⟩ := reads_src R a7 k7 (fun i hi => hrd i (List.mem_append_left _ (List.mem_append_left _ (List.mem_append_left _ (List.mem_append_left _ (List.mem_append_right _ hi)))))) (by omega)
      obtain ⟨A10, p10, d10, e10, t10⟩ := reads_src R a10 k10 (fun i hi => hrd i (List.mem_append_left _ (List.mem_append_left _ (List.mem_append_left _ (List.mem_append_right _ hi))))) (by omega)
      obtain ⟨A11, p11, d11, e11, t11⟩ := reads_src R a11 k11 (fun i hi => hrd i (List.mem_append_left _ (List.mem_append_left _ (List.mem_append_right _ hi)))) (by omega)
      obtain ⟨A14, p14, d14, e14, t14⟩ := reads_src R a14 k14 (fun i hi => hrd i (List.mem_append_left _ (List.mem_append_right _ hi))) (by omega)
      obtain ⟨A15, p15, d15, e15, t15⟩ := reads_src R a15 k15 (fun i hi => hrd i (List.mem_append_right _ hi)) (by omega)
      refine callRo (views := [⟨5, (ls insOf n2 f2).length, prS (ls insOf n2 f2), A2, p2⟩, ⟨1, (ls iOf n3 f3).length, i64S (ls iOf n3 f3), A3, p3⟩, ⟨1, (ls iOf n6 f6).length, i64S (ls iOf n6 f6), A6, p6⟩, ⟨5, (ls evtOf n7 f7).length, evtsS (ls evtOf n7 f7), A7, p7⟩, ⟨5, (ls insOf n10 f10).length, prS (ls insOf n10 f10), A10, p10⟩, ⟨1, (ls iOf n11 f11).length, i64S (ls iOf n11 f11), A11, p11⟩, ⟨1, (ls iOf n14 f14).length, i64S (ls iOf n14 f14), A14, p14⟩, ⟨5, (ls evtOf n15 f15).length, evtsS (ls evtOf n15 f15), A15, p15⟩]) (eq28_lit ⟨(iOf v1), (ls insOf n2 f2), (ls iOf n3 f3), (iOf v4), (iOf v5), (ls iOf n6 f6)⟩ ⟨(iOf v9), (ls insOf n10 f10), (ls iOf n11 f11), (iOf v12), (iOf v13), (ls iOf n14 f14)⟩ (ls evtOf n7 f7) (ls evtOf n15 f15) (iOf v8) (iOf v16) p2 p3 p6 p7 p10 p11 p14 p15 (by rw [ls_length]; exact y1) (by rw [ls_length]; exact y2) (by rw [ls_length]; exact y3) (by rw [ls_length]; exact y4)) ?_ R hm hwr ?_ ?_ ?_
      · intro x hx
        simp only [List.mem_cons, List.not_mem_nil, or_false] at hx
        rcases hx with rfl | rfl | rfl | rfl | rfl | rfl | rfl | rfl
        · exact viewIns t2 e2 g2
        · exact viewI64 t3 e3 g3
        · exact viewI64 t6 e6 g6
        · exact viewEvt t7 e7 g7
        · exact viewIns t10 e10 g10
        · exact viewI64 t11 e11 g11
        · exact viewI64 t14 e14 g14
        · exact viewEvt t15 e15 g15
      · intro β1 hv
        simp only [Vd, ls_length, and_true] at hv
        obtain ⟨z2, z3, z6, z7, z10, z11, z14, z15⟩ := hv
        simp only [denL, aggDen, intDen, natDen, boolDen, ls_length, z2, z3, z6, z7, z10, z11, z14, z15, d2, d3, d6, d7, d10, d11, d14, d15, isI_den b1, isI_den b4, isI_den b5, isI_den b8, isI_den b9, isI_den b12, isI_den b13, isI_den b16]
      · exact Vm.b102
      · exact Vm.b102
    · cases hs
  · cases hs
end Go.Proofs.Ytjliakjbdcplcaa.Vm
end

section
namespace Go.Proofs.Ytjliakjbdcplcaa.Vm
open Go.RowKit
set_option linter.unusedVariables false
set_option linter.unusedSimpArgs false
theorem foldD_app (r : Rul) (D : Dn) (a b : List Evt) : foldD r D (a ++ b) = foldD r (foldD r D a) b := by simp [foldD]
theorem foldD_shift (r : Rul) : ∀ (l : List Evt) (D : Dn), foldD r D l = ⟨(foldD r ⟨D.p, [], 0⟩ l).p, D.sent ++ (foldD r ⟨D.p, [], 0⟩ l).sent, D.used + (foldD r ⟨D.p, [], 0⟩ l).used⟩
  | [], D => by simp [foldD_nil]
  | e :: l, D => by
    have h1 : foldD r D (e :: l) = foldD r (hS r D e) l := rfl
    have h2 : foldD r ⟨D.p, [], 0⟩ (e :: l) = foldD r (hS r ⟨D.p, [], 0⟩ e) l := rfl
    rw [h1, h2, foldD_shift r l (hS r D e), foldD_shift r l (hS r ⟨D.p, [], 0⟩ e)]
    have hp : (hS r ⟨D.p, [], 0⟩ e).p = (hS r D e).p := rfl
    rw [hp]
    have hs : (hS r D e).sent = D.sent ++ (hS r ⟨D.p, [], 0⟩ e).sent := by simp [hS]
    have hu : (hS r D e).used = D.used + (hS r ⟨D.p, [], 0⟩ e).used := by simp [hS]
    rw [hs, hu, List.append_assoc, Nat.add_assoc]
theorem drop_getD {α : Type} {l : List α} {k i : Nat} {d : α} : (l.drop k).getD i d = l.getD (k + i) d := by
  rw [List.getD_eq_getElem?_getD, List.getD_eq_getElem?_getD, List.getElem?_drop]
theorem take_getD {α : Type} {l : List α} {k i : Nat} {d : α} (h : i < k) : (l.take k).getD i d = l.getD i d := by
  rw [List.getD_eq_getElem?_getD, List.getD_eq_getElem?_getD, List.getElem?_take_of_lt h]
theorem badAt_take {p : Prc} {l : List Evt} {k : Nat} (hB : ∀ i, i < l.length → badAt p l i = 0) : ∀ i, i < (l.take k).length → badAt p (l.take k) i = 0 := by
  intro i hi
  rw [List.length_take] at hi
  rw [badAt_congr (l := l) (take_getD (by omega)) (fun h => take_getD (by omega))]
  exact hB i (by omega)
theorem badAt_drop {p q : Prc} {l : List Evt} {k : Nat} (hid : q.id = p.id) (hB : ∀ i, i < l.length → badAt p l i = 0) : ∀ i, i < (l.drop k).length → badAt q (l.drop k) i = 0 := by
  intro i hi
  rw [List.length_drop] at hi
  have h := hB (k + i) (by omega)
  unfold badAt at h ⊢
  rw [drop_getD, drop_getD, takes_eq hid]
  cases ht : takesB p (l.getD (k + i) ⟨0, 0, 0, 0, 0⟩)
  · rw [if_pos ht] at h; cases h
  · rw [if_neg (by rw [ht]; exact Bool.noConfusion)] at h
    rw [if_neg Bool.noConfusion, if_neg]
    rintro ⟨h0, h1⟩
    rw [show k + (i - 1) = k + i - 1 by omega] at h1
    rw [if_pos ⟨by omega, h1⟩] at h
    cases h
theorem AllK_take {r : Rul} {D : Dn} {l : List Evt} {k : Nat} (h : AllK r D l k) : AllK r D (l.take k) (l.take k).length := by
  intro i hi
  rw [List.length_take] at hi
  rw [List.take_take, Nat.min_eq_left (by omega), take_getD (by omega)]
  exact h i (by omega)
theorem AllK_le {r : Rul} {D : Dn} {l : List Evt} {k j : Nat} (h : AllK r D l k) (hj : j ≤ k) : AllK r D l j := fun i hi => h i (by omega)
theorem AllK_drop {r : Rul} {p : Prc} {l : List Evt} {k : Nat} (h : AllK r ⟨p, [], 0⟩ l l.length) (hk : k ≤ l.length) : AllK r ⟨(foldD r ⟨p, [], 0⟩ (l.take k)).p, [], 0⟩ (l.drop k) (l.drop k).length := by
  intro i hi
  rw [List.length_drop] at hi
  have := h (k + i) (by omega)
  rw [List.take_add, foldD_app, foldD_shift r _ (foldD r ⟨p, [], 0⟩ (l.take k))] at this
  rw [drop_getD]
  exact this
theorem all_or (r : Rul) (D : Dn) (l : List Evt) : ∀ n, AllK r D l n ∨ ∃ k, k < n ∧ AllK r D l k ∧ hE r (foldD r D (l.take k)).p (l.getD k ⟨0, 0, 0, 0, 0⟩) ≠ 0
  | 0 => .inl fun i hi => absurd hi (Nat.not_lt_zero i)
  | n + 1 => by
    rcases all_or r D l n with h | ⟨k, hk, h1, h2⟩
    · by_cases h0 : hE r (foldD r D (l.take n)).p (l.getD n ⟨0, 0, 0, 0, 0⟩) = 0
      · refine .inl fun i hi => ?_
        rcases Nat.lt_succ_iff_lt_or_eq.1 hi with h3 | rfl
        · exact h i h3
        · exact h0
      · exact .inr ⟨n, Nat.lt_succ_self n, h, h0⟩
    · exact .inr ⟨k, by omega, h1, h2⟩
theorem parts_eq (r : Rul) (p : Prc) (l : List Evt) (k : Nat) : foldD r ⟨p, [], 0⟩ l = ⟨(foldD r ⟨(foldD r ⟨p, [], 0⟩ (l.take k)).p, [], 0⟩ (l.drop k)).p, (foldD r ⟨p, [], 0⟩ (l.take k)).sent ++ (foldD r ⟨(foldD r ⟨p, [], 0⟩ (l.take k)).p, [], 0⟩ (l.drop k)).sent, (foldD r ⟨p, [], 0⟩ (l.take k)).used + (foldD r ⟨(foldD r ⟨p, [], 0⟩ (l.take k)).p, [], 0⟩ (l.drop k)).used⟩ := by
  conv => lhs; rw [← List.take_append_drop k l, foldD_app]
  exact foldD_shift r (l.drop k) (foldD r ⟨p, [], 0⟩ (l.take k))
end Go.Proofs.Ytjliakjbdcplcaa.Vm
end

section
namespace Go.Proofs.Ytjliakjbdcplcaa.Vm
open Go.RowKit
set_option linter.unusedVariables false
set_option linter.unusedSimpArgs false
set_option maxRecDepth 100000
set_option maxHeartbeats 4000000
def sOneX : Spec := fun args h m => match args with
  | [.agg [_, _, .nat .i64 10], .agg [_, _, _, _, _, .sl 5 5 [] 1 0 1 none], .agg [.agg [.nat .i64 7, _, _], .nat .i64 3, _]] => sOneG args h m
  | _ => sOneB args h m
theorem sOneX_ok : CallOk Try.prog 28 sOneX := by
  refine ⟨named_spec (by kernel_rfl), fun args h m c v rd wr hs hm hc w0 M β h' w R hrd hwr hst => ?_⟩
  unfold sOneX at hs
  split at hs
  · exact sOneG_ok.2 _ h m c v rd wr hs hm hc w0 M β h' w R hrd hwr hst
  · exact sOneB_ok.2 _ h m c v rd wr hs hm hc w0 M β h' w R hrd hwr hst
theorem ls_one {α : Type} (g : SV → α) (f : Nat → SV) : ls g 1 f = [g (f 0)] := rfl
theorem ls_two {α : Type} (g : SV → α) (f : Nat → SV) : ls g 2 f = [g (f 0), g (f 1)] := rfl
theorem nat_zero_int : ((0 : Nat) : Int) = 0 := rfl
theorem nat_one_int : ((1 : Nat) : Int) = 1 := rfl
theorem insOf_agg (a b c d e : SV) : insOf (.agg [a, b, c, d, e]) = ⟨iOf a, iOf b, iOf c, iOf d, iOf e⟩ := rfl
theorem evtOf_agg (a b c d e : SV) : evtOf (.agg [.agg [a, b, c], d, e]) = ⟨iOf a, iOf b, iOf c, iOf d, iOf e⟩ := rfl
theorem isEvt_agg (a b c d e : SV) : isEvt (.agg [.agg [a, b, c], d, e]) = (isI .i64 a && isI .i64 b && isI .i64 c && isI .i64 d && isI .i64 e) := rfl
def cAw28 : FuncId → Option Spec := look2 [(34, sNewPG), (28, sOneX), (32, (sAllB 1)), (52, sEqEvt)]
theorem cAw28_ok : ∀ f S, cAw28 f = some S → CallOk Try.prog f S := allOk_spec ⟨sNewPG_ok, sOneX_ok, sAllB_ok 1, sEqEvt_ok, trivial⟩
theorem awake28_lit : LitOk Try.prog 26 [] [.gone] (.bool true) [.gone] := by
  have k1 : ∀ x ∈ ([⟨8, 1, 0, 0, 0⟩, ⟨1, 0, 0, 0, 0⟩] : List Ins), x.ok := by intro x hx; simp only [List.mem_cons, List.not_mem_nil, or_false] at hx; rcases hx with rfl | rfl <;> (refine ⟨?_, ?_, ?_, ?_, ?_, ?_, ?_, ?_, ?_, ?_⟩ <;> decide)
  have r1 : (newP 3 [⟨8, 1, 0, 0, 0⟩, ⟨1, 0, 0, 0, 0⟩] 0 [5]).rightB = true := by kernel_rfl
  have f1 : oneE ⟨0, 2, 10⟩ ⟨3, [⟨8, 1, 0, 0, 0⟩, ⟨1, 0, 0, 0, 0⟩], [], 0, 0, [5]⟩ ⟨7, 0, 4, 3, 9⟩ = 0 := by kernel_rfl
  have f2 : oneE ⟨0, 2, 10⟩ ⟨3, [⟨8, 1, 0, 0, 0⟩, ⟨1, 0, 0, 0, 0⟩], [], 0, 0, [5]⟩ ⟨1, 0, 1, 3, 0⟩ = 189 := by kernel_rfl
  have n2 : oneE ⟨0, 2, 10⟩ ⟨3, [⟨8, 1, 0, 0, 0⟩, ⟨1, 0, 0, 0, 0⟩], [], 0, 0, [5]⟩ ⟨1, 0, 1, 3, 0⟩ ≠ 0 := by rw [f2]; decide
  have f3 : oneE ⟨0, 2, 10⟩ ⟨3, [⟨8, 1, 0, 0, 0⟩, ⟨1, 0, 0, 0, 0⟩], [], 0, 0, [5]⟩ ⟨7, 0, 4, 4, 9⟩ = 282 := by kernel_rfl
  have n3 : oneE ⟨0, 2, 10⟩ ⟨3, [⟨8, 1, 0, 0, 0⟩, ⟨1, 0, 0, 0, 0⟩], [], 0, 0, [5]⟩ ⟨7, 0, 4, 4, 9⟩ ≠ 0 := by rw [f3]; decide
  have f4 : oneE ⟨0, 2, 1⟩ ⟨3, [⟨8, 1, 0, 0, 0⟩, ⟨1, 0, 0, 0, 0⟩], [], 0, 0, [5]⟩ ⟨7, 0, 4, 3, 9⟩ = 190 := by kernel_rfl
  have n4 : oneE ⟨0, 2, 1⟩ ⟨3, [⟨8, 1, 0, 0, 0⟩, ⟨1, 0, 0, 0, 0⟩], [], 0, 0, [5]⟩ ⟨7, 0, 4, 3, 9⟩ ≠ 0 := by rw [f4]; decide
  have f6 : oneE ⟨0, 2, 10⟩ ⟨3, [⟨8, 1, 0, 0, 0⟩, ⟨1, 0, 0, 0, 0⟩], [], 0, 0, [0]⟩ ⟨7, 0, 4, 3, 9⟩ = 285 := by kernel_rfl
  have n6 : oneE ⟨0, 2, 10⟩ ⟨3, [⟨8, 1, 0, 0, 0⟩, ⟨1, 0, 0, 0, 0⟩], [], 0, 0, [0]⟩ ⟨7, 0, 4, 3, 9⟩ ≠ 0 := by rw [f6]; decide
  have f5 : badAt ⟨3, [⟨8, 1, 0, 0, 0⟩, ⟨1, 0, 0, 0, 0⟩], [], 0, 0, [5]⟩ [⟨7, 0, 4, 3, 9⟩, ⟨7, 0, 4, 3, 9⟩] 1 = 283 := by kernel_rfl
  have n5 : badAt ⟨3, [⟨8, 1, 0, 0, 0⟩, ⟨1, 0, 0, 0, 0⟩], [], 0, 0, [5]⟩ [⟨7, 0, 4, 3, 9⟩, ⟨7, 0, 4, 3, 9⟩] 1 ≠ 0 := by rw [f5]; decide
  have g5 : ∀ q, q < 1 → badAt ⟨3, [⟨8, 1, 0, 0, 0⟩, ⟨1, 0, 0, 0, 0⟩], [], 0, 0, [5]⟩ [⟨7, 0, 4, 3, 9⟩, ⟨7, 0, 4, 3, 9⟩] q = 0 := by intro q hq; obtain rfl : q = 0 := (by omega); kernel_rfl
  have p5 : procE ⟨0, 2, 10⟩ ⟨3, [⟨8, 1, 0, 0, 0⟩, ⟨1, 0, 0, 0, 0⟩], [], 0, 0, [5]⟩ = 0 := by kernel_rfl
  have h1 : (hS ⟨0, 2, 10⟩ ⟨⟨3, [⟨8, 1, 0, 0, 0⟩, ⟨1, 0, 0, 0, 0⟩], [], 0, 0, [5]⟩, [], 0⟩ ⟨7, 0, 4, 3, 9⟩).sent = [⟨14, 3, 0, 5, 9⟩] := by kernel_rfl
  have h2 : (hS ⟨0, 2, 10⟩ ⟨⟨3, [⟨8, 1, 0, 0, 0⟩, ⟨1, 0, 0, 0, 0⟩], [], 0, 0, [5]⟩, [], 0⟩ ⟨7, 0, 4, 3, 9⟩).used = 2 := by kernel_rfl
  have h3 : (hS ⟨0, 2, 10⟩ ⟨⟨3, [⟨8, 1, 0, 0, 0⟩, ⟨1, 0, 0, 0, 0⟩], [], 0, 0, [5]⟩, [], 0⟩ ⟨7, 0, 4, 3, 9⟩).p.seq = 1 := by kernel_rfl
  have z1 : eqL ([⟨14, 3, 0, 5, 9⟩] : List Evt) [⟨14, 3, 0, 5, 9⟩] = true := by exact eqL_true rfl
  refine litOkM (fn := Try.f26) 1 126 0 rfl rfl rfl rfl rfl trivial rfl fun w0 M E hro => ?_
  repeat' (first | refine Ctl.h ?_ | ((with_reducible intro hif); first | (focus (cases hif; done)) | (simp only [JH] at hif; try (exfalso; omega)) | (try (exfalso; omega))) | ((first | ((with_reducible apply J22 cAw28_ok tab_ok); (· rfl)) | ((with_reducible apply J23 fol cAw28_ok tab_ok); (· rfl)) | with_reducible apply J24); (· (simp only [push_cast, ↓JP, Nat.reduceAdd, Nat.reduceEqDiff, Nat.reduceLT, Nat.reduceMul, Nat.reduceLeDiff, reduceCtorEq, reduceIte, ↓JK, JE, JB, prc_eta, rul_eta, dnn_eta, cAw28, sNewPG, sOneX, sOneG, sOneB, sAllB, sEqEvt, pcS, prO, i64O, inO, evO_, dnS, dnR, dn0, newP, ls_one, ls_two, ls_zero, insOf_agg, evtOf_agg, isEvt_agg, nat_zero_int, nat_one_int, ls_evtsS, ls_evtsS', ls_evtsS2, evtsS, isEvt_evtS, evtOf_evtS, inR, inN, f1, f2, f3, f4, f6, f5, h1, h2, h3, z1]; rfl)); (try kernel_rfl); (try (focus (first | exact True.intro | ((try simp only [JS, implies_true, forall_const, shaped, shapedL, kndOf, iOf, newP, ls_one, ls_two, ls_zero, insOf_agg, evtOf_agg, isEvt_agg, nat_zero_int, nat_one_int, Nat.zero_add, List.getD_cons_zero, List.getD_cons_succ, Int.cast_ofNat_Int, List.replicate_zero, List.length_cons, List.length_nil]); (repeat' (first | exact True.intro | assumption | apply And.intro | decide | (intro q hq; first | rfl | exact hq.elim | exact k1 q hq | exact g5 q hq | ((rcases q with _ | _ | _ | q) <;> first | rfl | (exfalso; revert hq; simp; done))))); done) | ((try simp only [JS, implies_true, forall_const, shaped, shapedL, kndOf, inR, inN]); (repeat' (first | assumption | exact True.intro | omega | apply And.intro)); done))))) | fail)
  apply At.endsRet tab_ok (fn := Try.f26) (rs := [.tmp 0]) Anc.refl hro (Nat.le_of_ble_eq_true rfl) rfl
  · simp only [push_cast, ↓JP, Nat.reduceAdd, Nat.reduceEqDiff, Nat.reduceLT, Nat.reduceMul, Nat.reduceLeDiff, reduceCtorEq, reduceIte, ↓JK, resV, resV1, newP, ls_one, ls_two, ls_zero, insOf_agg, evtOf_agg, isEvt_agg, nat_zero_int, nat_one_int]; rfl
  · exact Vm.b7
  · exact Vm.b8
  · rfl
  · exact Vm.b102
  · exact Vm.b10
  · first | exact fun β => rfl | (intro β; kernel_rfl)
  · exact Vm.b102
def sAw28 : Spec := fun args h m => match args with
  | [] => some (True, .bool true, [], [])
  | _ => none
theorem sAw28_ok : CallOk Try.prog 26 sAw28 := by
  refine ⟨named_spec (by kernel_rfl), fun args h m c v rd wr hs hm hc w0 M β h' w R hrd hwr hst => ?_⟩
  unfold sAw28 at hs
  split at hs
  · skip
    simp only [Option.some.injEq, Prod.mk.injEq] at hs
    obtain ⟨rfl, rfl, rfl, rfl⟩ := hs
    refine callRo (views := []) (awake28_lit) ?_ R hm hwr ?_ ?_ ?_
    · intro x hx; cases hx
    · intro β1 hv
      simp only [denL, aggDen, intDen, natDen, boolDen, ls_length]
    · exact Vm.b102
    · exact Vm.b102
  · cases hs
end Go.Proofs.Ytjliakjbdcplcaa.Vm
end
end

section
namespace Go.Proofs.Ytjliakjbdcplcaa.Vm
open Go.RowKit
attribute [local push_cast] runR opG gtmp gval gus opX tmpsOf tm tmO tmP restr look look2 tab tys zs ets eqB eqBL allB numOf ieq Int.cast_ofNat_Int Int.ofNat_zero beq_true beq_false frameOf ev evL ofV opV loadV noW pushF wrsL setH allBorn allGone HB.born HB.isGone HB.val SV.plain dstOk hp nav fitsT SV.size sizeL SV.isAgg TK.size TK.agg bin binE binN binI arN arI cmpN cmpI keq kn narrow callV storeV setp fillV buildV buildSliceV makeV sliceV appendV appendFV slice3V copyV List.isEmpty_nil srcV evO asN ite_t ite_f ite_bool ite_int ite_nat maxV v_beq v_ble v_blt cond_true cond_false List.getElem?_cons_zero List.getElem?_cons_succ List.getD_cons_zero List.getD_cons_succ List.getD_nil List.length_cons List.length_nil List.take_succ_cons List.take_zero List.set_cons_zero List.set_cons_succ List.cons_append List.nil_append List.append_assoc List.replicate_succ List.replicate_zero Nat.zero_add Nat.add_zero decide_true decide_false Bool.true_and Bool.and_true Bool.false_and Bool.and_false Bool.true_or Bool.or_true Bool.false_or Bool.or_false beq_self_eq_true Bool.or_self Nat.lt_irrefl Nat.not_lt_zero Nat.le_refl Option.getD_some Option.getD_none BEq.rfl Bool.not_true Bool.not_false Bool.cond_true_left Bool.cond_false_right prS sndsS i64S nav_ins nav_ins0 nav_ins1 nav_ins2 nav_ins3 nav_ins4 nav_snd nav_snd0 nav_snd1 nav_snd2 isIns_insS insOf_insS isSnd_sndS sndOf_sndS isI_int isI_nat iOf JM JE JB prc_eta rul_eta dnn_eta dnB dnS DnI.at_ DnI.v dnR dn0 evO_ pcS prO i64O inO cB_eq sAw28 sMd28 sOneB sOneG sAllG sAllF sEq28 evtsS nav_evt nav_evt0 nav_evt1 nav_evt2 evm_ev isEvt_evtS evtOf_evtS inR inN evtOf_agg isEvt_agg nat_zero_int ls_zero ls_u8S ls_u8S' ls_esS ls_esS' ls_evtsS ls_evtsS' ls_evtsS2
set_option linter.unusedVariables false
set_option linter.unusedSimpArgs false
set_option maxRecDepth 100000
set_option maxHeartbeats 4000000
theorem procE_of {r : Rul} {p : Prc} (hr : r.rightB = true) (hp : p.rightB = true) : procE r p = 0 := by
  unfold procE; rw [if_neg (by rw [hr]; exact Bool.noConfusion), if_neg (by rw [hp]; exact Bool.noConfusion)]
theorem eqD_zero : eqD ⟨0, [], [], 0, 0, []⟩ [] 0 ⟨0, [], [], 0, 0, []⟩ [] 0 = true := by decide
theorem eqD_self (a : Prc) (s : List Evt) (u : Int) : eqD a s u a s u = true := by simp [eqD, eqP, eqL]
theorem ls_eqE {n : Nat} {f : Nat → SV} {l : List Evt} (hl : l.length = n) (h : ∀ q, q < n → evtOf (f q) = l.getD q ⟨0, 0, 0, 0, 0⟩) : ls evtOf n f = l := by
  subst hl
  have : ls evtOf l.length f = ls evtOf l.length (evtsS l) := by
    unfold ls
    exact List.map_congr_left fun q hq => h q (List.mem_range.1 hq)
  rw [this, ls_evtsS]
theorem isEvt_ite {c : Bool} {a b : SV} (h1 : isEvt a = true) (h2 : isEvt b = true) : isEvt (SV.ite c a b) = true := by
  rw [ite_eq]; cases c <;> assumption
theorem less_catE {t : Nat} {σ : Nat → Nat} {b : Bool} (S T : List Evt) {U : List Evt} (hU : S ++ T = U) {g : Nat → SV} (hg : g = fun q => SV.ite (decide (q < S.length)) (evtS (S.getD q ⟨0, 0, 0, 0, 0⟩)) (evtS (T.getD (q - S.length) ⟨0, 0, 0, 0, 0⟩))) :
    Less (.own t (.arr U.length 5 g) b) ((HB.own t (.arr U.length 5 (evtsS U)) b).ren σ) := by
  have e : (HB.own t (.arr U.length 5 (evtsS U)) b).ren σ = .own t (.arr U.length 5 (evtsS U)) b := by
    simp only [HB.ren, SV.ren]; rw [evtsS_ren]
  rw [e]
  refine .val (fun β => arrCl fun q hq => ?_) (fun n1 k1 f1 e => by injection e with e1 e2 e3; subst e1 e2; exact ⟨_, rfl⟩) (fun n1 k1 f1 e => by injection e with e1 e2 e3; subst e1 e2; exact ⟨_, rfl⟩)
  subst hg hU
  dsimp only
  rw [ite_eq]
  unfold evtsS
  by_cases h : q < S.length
  · simp only [h, decide_true, cond_true]
    rw [getD_app_lt h]
  · simp only [h, decide_false, cond_false]
    rw [List.getD_eq_getElem?_getD, List.getD_eq_getElem?_getD, List.getElem?_append_right (by omega)]
def cPaG : FuncId → Option Spec := look2 [(26, sAw28), (27, sMd28), (32, sAllG), (28, sOneG), (33, sEq28)]
theorem cPaG_ok : ∀ f S, cPaG f = some S → CallOk Try.prog f S := allOk_spec ⟨sAw28_ok, sMd28_ok, sAllG_ok, sOneG_ok, sEq28_ok, trivial⟩
def sAllX (N i : Nat) : Spec := fun args h m => match args with
  | [_, _, .sl _ _ _ _ _ n _] => bif decide (n = N) then sAllF i args h m else sAllG args h m
  | _ => none
theorem sAllX_ok (N i : Nat) : CallOk Try.prog 32 (sAllX N i) := by
  refine ⟨named_spec (by kernel_rfl), fun args h m c v rd wr hs hm hc w0 M β h' w R hrd hwr hst => ?_⟩
  unfold sAllX at hs
  split at hs
  · rename_i a b z i' pa k s n cp
    cases q : decide (n = N)
    · rw [q] at hs
      exact sAllG_ok.2 _ h m c v rd wr hs hm hc w0 M β h' w R hrd hwr hst
    · rw [q] at hs
      exact (sAllF_ok i).2 _ h m c v rd wr hs hm hc w0 M β h' w R hrd hwr hst
  · cases hs
def cPaX (N i : Nat) : FuncId → Option Spec := look2 [(26, sAw28), (27, sMd28), (32, (sAllX N i)), (28, sOneG), (33, sEq28)]
theorem cPaX_ok (N i : Nat) : ∀ f S, cPaX N i f = some S → CallOk Try.prog f S := allOk_spec ⟨sAw28_ok, sMd28_ok, sAllX_ok N i, sOneG_ok, sEq28_ok, trivial⟩
def cPaY (N i : Nat) : FuncId → Option Spec := look2 [(26, sAw28), (27, sMd28), (32, (sAllX N i)), (28, sOneB), (33, sEq28)]
theorem cPaY_ok (N i : Nat) : ∀ f S, cPaY N i f = some S → CallOk Try.prog f S := allOk_spec ⟨sAw28_ok, sMd28_ok, sAllX_ok N i, sOneB_ok, sEq28_ok, trivial⟩
theorem parts_lit (xs : List Ins) (a d sn seed id ahead fuel sq : Int) (rg : Nat → Int) (cs ps : List Int) (es : List ESm) (p1 p2 p3 p4 : Nat) (hx : ∀ x ∈ xs, x.ok) (hcap : max xs.length p1 ≤ 9223372036854775807) (hcp : cs.length ≤ p2) (ha : 0 ≤ a ∧ a ≤ 255) (hd : 0 ≤ d ∧ d ≤ 4294967295) (hs : 0 ≤ sn ∧ sn ≤ 255) (hid : 0 ≤ id ∧ id ≤ 255) (hah : 0 ≤ ahead ∧ ahead ≤ 255) (hf : 0 ≤ fuel ∧ fuel ≤ 65535) (hsq : 0 ≤ sq ∧ sq ≤ 65535) (hps : ∀ q, 0 ≤ ps.getD q 0 ∧ ps.getD q 0 ≤ 255) (hpl : ps.length ≤ p3) (hp3 : p3 ≤ 9223372036854775807) (hes : ∀ e ∈ es, e.ok) (hel : es.length ≤ p4) (hp4 : p4 ≤ 9223372036854775807) (cut : Int) (hcu : 0 ≤ cut ∧ cut ≤ 255) : LitOk Try.prog 8 [.agg [.sl 1 2 [] 5 0 xs.length (some p1), .agg [.int .u8 a, .arr 8 1 (fun q => .int .i64 (rg q)), .sl 3 4 [] 1 0 cs.length (some p2), .int .u32 d, .int .u8 sn], .int .u64 seed, .int .u8 id, .int .u8 ahead, .int .u16 fuel, .int .u16 sq, .sl 5 6 [] 1 0 ps.length (some p3), .sl 7 8 [] 3 0 es.length (some p4)], .int .u8 cut]
    [.gone, .gone, .ro (.arr xs.length 5 (prS xs)), .gone, .ro (.arr cs.length 1 (i64S cs)), .gone, .ro (.arr ps.length 1 (u8S ps)), .gone, .ro (.arr es.length 3 (esS es))] (.bool true) [.gone] := by
  have y0 := Int.tmod_nonneg 16 hid.1
  have y1 := Int.tmod_lt_of_pos id (show (0 : Int) < 16 by decide)
  have y2 := Int.tmod_nonneg 5 hah.1
  have y3 := Int.tmod_lt_of_pos ahead (show (0 : Int) < 5 by decide)
  have y4 := Int.tmod_nonneg 300 hf.1
  have y5 := Int.tmod_lt_of_pos fuel (show (0 : Int) < 300 by decide)
  have hE0 := made28_proc xs (cs := cs) (ps := ps) (seed := seed) hid.1 hah.1 hf.1 hsq hd hps
  have hok := made14_ok xs hx
  have hml := (made14_le xs).2
  have hct : (cs.take 12).length ≤ 12 := by rw [List.length_take]; omega
  have hpt : (mPorts (ps.take 16)).length ≤ 16 := by simp [mPorts]; omega
  have hG := mEv_good (p := ⟨1 + id.tmod 16, made14 xs, cs.take 12, d, sq, mPorts (ps.take 16)⟩) (l := es.take 10) (by rw [List.length_take]; omega) (fun e he => hes e (List.mem_of_mem_take he))
  have hGl := hG.1
  have hGb := hG.2
  rw [List.length_take] at hGl
  dsimp only at hGl hGb
  have hcapx : max xs.length p1 ≤ 9223372036854775807 := hcap
  have hcapp : max ps.length p3 ≤ 9223372036854775807 := by omega
  have hcape : max es.length p4 ≤ 9223372036854775807 := by omega
  obtain ⟨PP, hPP⟩ : ∃ x, made14 xs = x := ⟨_, rfl⟩
  obtain ⟨CC, hCC⟩ : ∃ x, cs.take 12 = x := ⟨_, rfl⟩
  obtain ⟨QQ, hQQ⟩ : ∃ x, mPorts (ps.take 16) = x := ⟨_, rfl⟩
  obtain ⟨ID, hID⟩ : ∃ x, 1 + id.tmod 16 = x := ⟨_, rfl⟩
  obtain ⟨AH, hAH⟩ : ∃ x, 1 + ahead.tmod 5 = x := ⟨_, rfl⟩
  obtain ⟨FU, hFU⟩ : ∃ x, fuel.tmod 300 = x := ⟨_, rfl⟩
  rw [hPP, hCC, hQQ, hID, hAH, hFU] at hE0
  rw [hPP] at hok hml
  rw [hCC] at hct
  rw [hQQ] at hpt
  rw [hPP, hCC, hQQ, hID] at hGb
  rw [hID] at hGl
  obtain ⟨L, hL⟩ : ∃ x, (mEv ID (es.take 10)).2 = x := ⟨_, rfl⟩
  rw [hL] at hGl hGb
  have hLl : L.length ≤ 10 := by omega
  have hn : PP.length ≤ 1000000 := by omega
  have hc : CC.length ≤ 1000000 := by omega
  have hq : QQ.length ≤ 1000000 := by omega
  rcases all_or ⟨seed, AH, FU⟩ ⟨⟨ID, PP, CC, d, sq, QQ⟩, [], 0⟩ L L.length with hA | ⟨k0, hk0, hA, hk1⟩
  · obtain ⟨W, hW⟩ : ∃ W, foldD ⟨seed, AH, FU⟩ ⟨⟨ID, PP, CC, d, sq, QQ⟩, [], 0⟩ L = W := ⟨_, rfl⟩
    have hFW := fi_all hE0 hok hGb L.length (Nat.le_refl _) hA
    rw [List.take_length, hW] at hFW

    refine litOkM (fn := Try.f8) 9 171 0 rfl rfl rfl rfl rfl (by simp only [StableL, Stable, hp, pcR, dnB, DnI.at_, dnS, dnR, pcS, i64S, prS, insS, sndsS, sndS, evtsS, evtS, prO, i64O, inO, evO_, cB, sB, u8S, esS, esA, HB.stable]; simp [HB.born]) rfl fun w0 M E hro => ?_
    repeat' (first | refine Ctl.h ?_ | ((with_reducible intro hif); first | (focus (cases hif; done)) | (simp only [JH] at hif; try (exfalso; omega)) | (try (exfalso; omega))) | ((first | ((with_reducible apply J22 cPaG_ok tab_ok); (· rfl)) | ((with_reducible apply J23 fol cPaG_ok tab_ok); (· rfl)) | with_reducible apply J24); (· (simp only [push_cast, ↓JP, Nat.reduceAdd, Nat.reduceEqDiff, Nat.reduceLT, Nat.reduceMul, Nat.reduceLeDiff, reduceCtorEq, reduceIte, ↓JK, cPaG, sAllX, ↓evtS_sz, ↓evtS_ag, ↓evtS_pl, Nat.sub_zero, hPP, hCC, hQQ, hID, hAH, hFU, hL, hW]; rfl)); (try kernel_rfl); (try exact Vm.b131)) | fail)
    refine WF.loopAt (fun (z : KD) => z.k ≤ L.length ∧ foldD ⟨seed, AH, FU⟩ ⟨⟨ID, PP, CC, d, sq, QQ⟩, [], 0⟩ (L.take z.k) = z.D) (fun (z : KD) => [(1, .int .u8 cut), (2, .ptr 9 []), (5, .ptr 14 []), (6, .ptr 15 []), (7, .sl 13 13 [] 5 0 L.length none), (8, .ptr 20 []), (9, .int .i64 (-1)), (10, .int .i64 0), (11, .ptr 21 []), (44, .sl 13 13 [] 5 0 L.length none), (45, .nat .i64 L.length), (46, .nat .i64 z.k)]) (fun (z : KD) => (match z.k with | 0 => [.gone, .gone, .ro (.arr xs.length 5 (prS xs)), .gone, .ro (.arr cs.length 1 (i64S cs)), .gone, .ro (.arr ps.length 1 (u8S ps)), .gone, .ro (.arr es.length 3 (esS es)), .own 78 (.agg [.sl 1 2 [] 5 0 xs.length (some p1), .agg [.int .u8 a, .arr 8 1 (fun q => .int .i64 (rg q)), .sl 3 4 [] 1 0 cs.length (some p2), .int .u32 d, .int .u8 sn], .int .u64 seed, .int .u8 id, .int .u8 ahead, .int .u16 fuel, .int .u16 sq, .sl 5 6 [] 1 0 ps.length (some p3), .sl 7 8 [] 3 0 es.length (some p4)]) true, .own 73 (.arr PP.length 5 (prS PP)) false, .own 2 (.arr CC.length 1 (i64S CC)) false, .own 3 (.arr QQ.length 1 (i64S QQ)) false, .own 39 (.arr L.length 5 (evtsS L)) false, .own 80 (.agg [.int .u64 seed, .int .i64 AH, .int .i64 FU]) true, .own 82 (.agg [.int .i64 ID, .sl 10 10 [] 5 0 PP.length none, .sl 11 11 [] 1 0 CC.length none, .int .i64 d, .int .i64 sq, .sl 12 12 [] 1 0 QQ.length none]) true, prO W.p.P, i64O W.p.cells, inO W.p.ports, evO_ W.sent, dnB W 16 17 18 19, .own 87 (.agg [(.agg [.int .i64 ID, .sl 10 10 [] 5 0 PP.length none, .sl 11 11 [] 1 0 CC.length none, .int .i64 d, .int .i64 sq, .sl 12 12 [] 1 0 QQ.length none]), .sl 0 0 [] 0 0 0 (some 0), .nat .i64 0]) true] | _ + 1 => [.gone, .gone, .ro (.arr xs.length 5 (prS xs)), .gone, .ro (.arr cs.length 1 (i64S cs)), .gone, .ro (.arr ps.length 1 (u8S ps)), .gone, .ro (.arr es.length 3 (esS es)), .own 78 (.agg [.sl 1 2 [] 5 0 xs.length (some p1), .agg [.int .u8 a, .arr 8 1 (fun q => .int .i64 (rg q)), .sl 3 4 [] 1 0 cs.length (some p2), .int .u32 d, .int .u8 sn], .int .u64 seed, .int .u8 id, .int .u8 ahead, .int .u16 fuel, .int .u16 sq, .sl 5 6 [] 1 0 ps.length (some p3), .sl 7 8 [] 3 0 es.length (some p4)]) true, .own 73 (.arr PP.length 5 (prS PP)) false, .own 2 (.arr CC.length 1 (i64S CC)) false, .own 3 (.arr QQ.length 1 (i64S QQ)) false, .own 39 (.arr L.length 5 (evtsS L)) false, .own 80 (.agg [.int .u64 seed, .int .i64 AH, .int .i64 FU]) true, .own 82 (.agg [.int .i64 ID, .sl 10 10 [] 5 0 PP.length none, .sl 11 11 [] 1 0 CC.length none, .int .i64 d, .int .i64 sq, .sl 12 12 [] 1 0 QQ.length none]) true, prO W.p.P, i64O W.p.cells, inO W.p.ports, evO_ W.sent, dnB W 16 17 18 19, dnB z.D 22 23 24 25, prO z.D.p.P, i64O z.D.p.cells, inO z.D.p.ports, evO_ z.D.sent])) (fun (z : KD) => L.length - z.k) ⟨0, ⟨⟨ID, PP, CC, d, sq, QQ⟩, [], 0⟩⟩ ⟨Nat.zero_le _, rfl⟩ ?_ ?_ rfl ?_ ?_ rfl ?_
    · exact Vm.b11
    · exact Vm.b8
    · exact Vm.b127
    · exact Vm.b127
    rintro ⟨k, D⟩ ⟨hk, hD⟩
    dsimp only at hk hD ⊢
    have hFk := fi_all hE0 hok hGb k hk (AllK_le hA hk)
    rw [hD] at hFk
    have hrf := of_decide_eq_true (show decide _ = true from (procE_zero hE0).1)
    dsimp only at hrf
    have hPE := procE_of (procE_zero hE0).1 hFk.hp
    have hlP : D.p.P.length ≤ 1000000 := by rw [hFk.P]; exact hn
    have hlC : D.p.cells.length ≤ 1000000 := by rw [hFk.cl]; exact hc
    have hlQ : D.p.ports.length ≤ 1000000 := by rw [hFk.po]; exact hq
    have hokD : ∀ x ∈ D.p.P, x.ok := by rw [hFk.P]; exact hok
    by_cases hkl : k < L.length
    · obtain ⟨e, he⟩ : ∃ e, L.getD k ⟨0, 0, 0, 0, 0⟩ = e := ⟨_, rfl⟩
      have ht := badAt_takes (hGb k hkl)
      rw [he] at ht
      have h0 : hE ⟨seed, AH, FU⟩ D.p e = 0 := by
        have := hA k hkl
        rw [hD, he] at this
        exact this
      have hOE : oneE ⟨seed, AH, FU⟩ D.p e = 0 := (oneE_of hPE (by rw [takes_eq hFk.id]; exact ht)).trans h0
      have hD' : foldD ⟨seed, AH, FU⟩ ⟨⟨ID, PP, CC, d, sq, QQ⟩, [], 0⟩ (L.take (k + 1)) = hS ⟨seed, AH, FU⟩ D e := by rw [take_snoc ⟨0, 0, 0, 0, 0⟩ hkl, foldD_snoc, hD, he]
      have hF1 := fi_all hE0 hok hGb (k + 1) hkl (AllK_le hA hkl)
      rw [hD'] at hF1
      have hsu := hF1.su
      have hus := hF1.us
      have hmul : FU * ((k + 1 : Nat) : Int) ≤ 4096 * 10 := Int.le_trans (Int.mul_le_mul_of_nonneg_right hrf.2.2.2 (by omega)) (by omega)
      dsimp only at hus
      have hUl : D.sent.length + (hS ⟨seed, AH, FU⟩ ⟨D.p, [], 0⟩ e).sent.length = (hS ⟨seed, AH, FU⟩ D e).sent.length := by simp [hS]
      have hUu : D.used + (hS ⟨seed, AH, FU⟩ ⟨D.p, [], 0⟩ e).used = (hS ⟨seed, AH, FU⟩ D e).used := by simp [hS]
      have hUc : D.sent ++ (hS ⟨seed, AH, FU⟩ ⟨D.p, [], 0⟩ e).sent = (hS ⟨seed, AH, FU⟩ D e).sent := by simp [hS]
      cases k with
      | zero =>
        obtain rfl : D = ⟨⟨ID, PP, CC, d, sq, QQ⟩, [], 0⟩ := hD.symm
        dsimp only at hsu hus hOE h0 hPE hUl hUu hUc ⊢

        repeat' (first | refine Ctl.h ?_ | ((with_reducible intro hif); first | (focus (cases hif; done)) | (simp only [JH] at hif; try (exfalso; omega)) | (try (exfalso; omega))) | ((first | ((with_reducible apply J22 cPaG_ok tab_ok); (· rfl)) | ((with_reducible apply J23 fol cPaG_ok tab_ok); (· rfl)) | with_reducible apply J24); (· exact Vm.b133); (try kernel_rfl); (try exact Vm.b132)) | fail)
        refine At.nextPick [0, 1, 2, 3, 4, 5, 6, 7, 8, 9, 10, 11, 12, 13, 14, 15, 16, 17, 18, 19, 20, 21, 23, 24, 25, 28] ⟨0 + 1, hS ⟨seed, AH, FU⟩ ⟨⟨ID, PP, CC, d, sq, QQ⟩, [], 0⟩ e⟩ ?_ rfl rfl rfl ?_ rfl ?_ ?_ ?_ rfl
        · exact ⟨⟨hkl, hD'⟩, by dsimp only; omega⟩
        · exact Vm.b37
        · exact Vm.b127
        · exact Vm.b68
        · exact Vm.b127
      | succ k =>
        dsimp only

        repeat' (first | refine Ctl.h ?_ | ((with_reducible intro hif); first | (focus (cases hif; done)) | (simp only [JH] at hif; try (exfalso; omega)) | (try (exfalso; omega))) | ((first | ((with_reducible apply J22 cPaG_ok tab_ok); (· rfl)) | ((with_reducible apply J23 fol cPaG_ok tab_ok); (· rfl)) | with_reducible apply J24); (· exact Vm.b133); (try kernel_rfl); (try exact Vm.b132)) | fail)
        refine At.nextPick [0, 1, 2, 3, 4, 5, 6, 7, 8, 9, 10, 11, 12, 13, 14, 15, 16, 17, 18, 19, 20, 21, 27, 28, 29, 32] ⟨k + 1 + 1, hS ⟨seed, AH, FU⟩ D e⟩ ?_ rfl rfl rfl ?_ rfl ?_ ?_ ?_ rfl
        · exact ⟨⟨hkl, hD'⟩, by dsimp only; omega⟩
        · exact Vm.b128
        · exact Vm.b127
        · exact Vm.b68
        · exact Vm.b127
    · have hkL : k = L.length := by omega
      rw [hkL, List.take_length, hW] at hD
      obtain ⟨kk, hkk⟩ : ∃ kk : Nat, cut.tmod ((L.length : Int) + 1) = (kk : Int) := ⟨(cut.tmod ((L.length : Int) + 1)).toNat, by have := Int.tmod_nonneg ((L.length : Int) + 1) hcu.1; omega⟩
      have hkl2 : kk ≤ L.length := by have := Int.tmod_lt_of_pos cut (show (0 : Int) < (L.length : Int) + 1 by omega); omega
      obtain ⟨L1, hL1⟩ : ∃ x, L.take kk = x := ⟨_, rfl⟩
      obtain ⟨L2, hL2⟩ : ∃ x, L.drop kk = x := ⟨_, rfl⟩
      have hl1 : L1.length = kk := by rw [← hL1, List.length_take]; omega
      have hl2 : L2.length = L.length - kk := by rw [← hL2, List.length_drop]
      have hT1 : ls evtOf kk (fun q => evtS (L.getD q ⟨0, 0, 0, 0, 0⟩)) = L1 := ls_eqE hl1 fun q hq => by rw [← hL1, take_getD hq]; rfl
      have hT2 : ls evtOf (L.length - kk) (fun q => evtS (L.getD (kk + q) ⟨0, 0, 0, 0, 0⟩)) = L2 := ls_eqE hl2 fun q hq => by rw [← hL2, drop_getD]; rfl
      have hFa := fi_all hE0 hok hGb kk hkl2 (AllK_le hA hkl2)
      have hB1 := badAt_take (k := kk) hGb
      have hA1 := AllK_take (k := kk) (AllK_le hA hkl2)
      have hA2 := AllK_drop hA hkl2
      have hB2 := badAt_drop (k := kk) hFa.id hGb
      have hWW := parts_eq ⟨seed, AH, FU⟩ ⟨ID, PP, CC, d, sq, QQ⟩ L kk
      rw [hW, hL1, hL2] at hWW
      rw [hL1] at hFa hB1 hA1 hA2 hB2
      rw [hL2] at hA2 hB2
      obtain ⟨Wa, hWa⟩ : ∃ x, foldD ⟨seed, AH, FU⟩ ⟨⟨ID, PP, CC, d, sq, QQ⟩, [], 0⟩ L1 = x := ⟨_, rfl⟩
      rw [hWa] at hFa hA2 hB2 hWW
      obtain ⟨Wb, hWb⟩ : ∃ x, foldD ⟨seed, AH, FU⟩ ⟨Wa.p, [], 0⟩ L2 = x := ⟨_, rfl⟩
      rw [hWb] at hWW
      have hPa := procE_of (procE_zero hE0).1 hFa.hp
      have hUc : Wa.sent ++ Wb.sent = W.sent := by rw [hWW]
      have hUl : Wa.sent.length + Wb.sent.length = W.sent.length := by rw [← hUc, List.length_append]
      have hUu : Wa.used + Wb.used = W.used := by rw [hWW]
      have hUp : Wb.p = W.p := by rw [hWW]
      have hUuI : (Wa.used : Int) + (Wb.used : Int) = (W.used : Int) := by omega
      have hT3 : ls evtOf W.sent.length (fun q => SV.ite (decide (q < Wa.sent.length)) (evtS (Wa.sent.getD q ⟨0, 0, 0, 0, 0⟩)) (evtS (Wb.sent.getD (q - Wa.sent.length) ⟨0, 0, 0, 0, 0⟩))) = W.sent := ls_eqE rfl fun q hq => by
        rw [ite_eq, ← hUc]
        by_cases h : q < Wa.sent.length
        · simp only [h, decide_true, cond_true]; rw [getD_app_lt h]; rfl
        · simp only [h, decide_false, cond_false]
          rw [List.getD_eq_getElem?_getD (l := Wa.sent ++ Wb.sent), List.getElem?_append_right (by omega), ← List.getD_eq_getElem?_getD]; rfl
      have haP : Wa.p.P.length ≤ 1000000 := by rw [hFa.P]; exact hn
      have haC : Wa.p.cells.length ≤ 1000000 := by rw [hFa.cl]; exact hc
      have haQ : Wa.p.ports.length ≤ 1000000 := by rw [hFa.po]; exact hq
      have haok : ∀ x ∈ Wa.p.P, x.ok := by rw [hFa.P]; exact hok
      have hWsu := hFW.su
      have hWus := hFW.us
      have hWm : FU * ((L.length : Nat) : Int) ≤ 4096 * 10 := Int.le_trans (Int.mul_le_mul_of_nonneg_right hrf.2.2.2 (by omega)) (by omega)
      dsimp only at hWus
      have hWP : W.p.P.length ≤ 1000000 := by rw [hFW.P]; exact hn
      have hWC : W.p.cells.length ≤ 1000000 := by rw [hFW.cl]; exact hc
      have hWQ : W.p.ports.length ≤ 1000000 := by rw [hFW.po]; exact hq
      have hl1b : L1.length ≤ 200 := by omega
      have hl2b : L2.length ≤ 200 := by omega
      cases k with
      | zero =>
        have hLn : L = [] := List.eq_nil_of_length_eq_zero hkL.symm
        have hW0 : W = ⟨⟨ID, PP, CC, d, sq, QQ⟩, [], 0⟩ := by rw [← hW, hLn]; rfl
        have hEz : eqD W.p W.sent (W.used : Int) ⟨ID, PP, CC, d, sq, QQ⟩ [] 0 = true := by rw [hW0]; exact eqD_self _ _ _
        dsimp only

        repeat' (first | refine Ctl.h ?_ | ((with_reducible intro hif); first | (focus (cases hif; done)) | (simp only [JH] at hif; try (exfalso; omega)) | (try (exfalso; omega))) | ((first | ((with_reducible apply J22 cPaG_ok tab_ok); (· rfl)) | ((with_reducible apply J23 fol cPaG_ok tab_ok); (· rfl)) | with_reducible apply J24); (· (simp only [push_cast, ↓JP, Nat.reduceAdd, Nat.reduceEqDiff, Nat.reduceLT, Nat.reduceMul, Nat.reduceLeDiff, reduceCtorEq, reduceIte, ↓JK, cPaG, sAllX, ↓evtS_sz, ↓evtS_ag, ↓evtS_pl, Nat.sub_zero, hPP, hCC, hQQ, hID, hAH, hFU, hL, hkl, hkk, Int.toNat_natCast, hT1, hT2, hT3, hWa, hWb, hUl, hUu, hUp, eqD_self, hEz]; rfl)); (try kernel_rfl); (try exact Vm.b134)) | fail)
        apply At.endsRet tab_ok (fn := Try.f8) (rs := [.tmp 4]) Anc.refl hro (Nat.le_of_ble_eq_true rfl) rfl
        · exact Vm.b18
        · exact Vm.b7
        · exact Vm.b8
        · rfl
        · exact Vm.b127
        · exact Vm.b10
        · (intro β; simp only [hT3, hUuI, eqD_self, decide_true, Bool.and_true]; rfl)
        · exact Vm.b127
      | succ k =>
        obtain rfl : W = D := hD
        dsimp only

        repeat' (first | refine Ctl.h ?_ | ((with_reducible intro hif); first | (focus (cases hif; done)) | (simp only [JH] at hif; try (exfalso; omega)) | (try (exfalso; omega))) | ((first | ((with_reducible apply J22 cPaG_ok tab_ok); (· rfl)) | ((with_reducible apply J23 fol cPaG_ok tab_ok); (· rfl)) | with_reducible apply J24); (· (simp only [push_cast, ↓JP, Nat.reduceAdd, Nat.reduceEqDiff, Nat.reduceLT, Nat.reduceMul, Nat.reduceLeDiff, reduceCtorEq, reduceIte, ↓JK, cPaG, sAllX, ↓evtS_sz, ↓evtS_ag, ↓evtS_pl, Nat.sub_zero, hPP, hCC, hQQ, hID, hAH, hFU, hL, hkl, hkk, Int.toNat_natCast, hT1, hT2, hT3, hWa, hWb, hUl, hUu, hUp, eqD_self]; rfl)); (try kernel_rfl); (try exact Vm.b134)) | fail)
        apply At.endsRet tab_ok (fn := Try.f8) (rs := [.tmp 4]) Anc.refl hro (Nat.le_of_ble_eq_true rfl) rfl
        · exact Vm.b18
        · exact Vm.b7
        · exact Vm.b8
        · rfl
        · exact Vm.b127
        · exact Vm.b10
        · (intro β; simp only [hT3, hUuI, eqD_self, decide_true, Bool.and_true]; rfl)
        · exact Vm.b127
  · have hne : ¬ (k0 = L.length) := by omega
    obtain ⟨H, hH⟩ : ∃ H, hE ⟨seed, AH, FU⟩ (foldD ⟨seed, AH, FU⟩ ⟨⟨ID, PP, CC, d, sq, QQ⟩, [], 0⟩ (L.take k0)).p (L.getD k0 ⟨0, 0, 0, 0, 0⟩) = H := ⟨_, rfl⟩
    rw [hH] at hk1
    obtain ⟨L1, hL1⟩ : ∃ x, L.take k0 = x := ⟨_, rfl⟩
    have hl1 : L1.length = k0 := by rw [← hL1, List.length_take]; omega
    have hT1 : ls evtOf k0 (fun q => evtS (L.getD q ⟨0, 0, 0, 0, 0⟩)) = L1 := ls_eqE hl1 fun q hq => by rw [← hL1, take_getD hq]; rfl
    have hB1 := badAt_take (k := k0) hGb
    have hA1 := AllK_take (k := k0) hA
    rw [hL1] at hB1 hA1
    have hl1b : L1.length ≤ 200 := by omega
    have hHn : hE ⟨seed, AH, FU⟩ (foldD ⟨seed, AH, FU⟩ ⟨⟨ID, PP, CC, d, sq, QQ⟩, [], 0⟩ (L.take k0)).p (L.getD k0 ⟨0, 0, 0, 0, 0⟩) ≠ 0 := by rw [hH]; exact hk1

    refine litOkM (fn := Try.f8) 9 171 0 rfl rfl rfl rfl rfl (by simp only [StableL, Stable, hp, pcR, dnB, DnI.at_, dnS, dnR, pcS, i64S, prS, insS, sndsS, sndS, evtsS, evtS, prO, i64O, inO, evO_, cB, sB, u8S, esS, esA, HB.stable]; simp [HB.born]) rfl fun w0 M E hro => ?_
    repeat' (first | refine Ctl.h ?_ | ((with_reducible intro hif); first | (focus (cases hif; done)) | (simp only [JH] at hif; try (exfalso; omega)) | (try (exfalso; omega))) | ((first | ((with_reducible apply J22 (cPaX_ok L.length k0) tab_ok); (· rfl)) | ((with_reducible apply J23 fol (cPaX_ok L.length k0) tab_ok); (· rfl)) | with_reducible apply J24); (· (simp only [push_cast, ↓JP, Nat.reduceAdd, Nat.reduceEqDiff, Nat.reduceLT, Nat.reduceMul, Nat.reduceLeDiff, reduceCtorEq, reduceIte, ↓JK, cPaX, sAllX, ↓evtS_sz, ↓evtS_ag, ↓evtS_pl, Nat.sub_zero, hPP, hCC, hQQ, hID, hAH, hFU, hL, hH, hne, eq_self]; rfl)); (try kernel_rfl); (try exact Vm.b131)) | fail)
    refine WF.loopAt (fun (z : KD) => z.k ≤ k0 ∧ foldD ⟨seed, AH, FU⟩ ⟨⟨ID, PP, CC, d, sq, QQ⟩, [], 0⟩ (L.take z.k) = z.D) (fun (z : KD) => [(1, .int .u8 cut), (2, .ptr 9 []), (5, .ptr 14 []), (6, .ptr 15 []), (7, .sl 13 13 [] 5 0 L.length none), (8, .ptr 16 []), (9, .nat .i64 k0), (10, .int .i64 H), (11, .ptr 17 []), (44, .sl 13 13 [] 5 0 L.length none), (45, .nat .i64 L.length), (46, .nat .i64 z.k)]) (fun (z : KD) => (match z.k with | 0 => [.gone, .gone, .ro (.arr xs.length 5 (prS xs)), .gone, .ro (.arr cs.length 1 (i64S cs)), .gone, .ro (.arr ps.length 1 (u8S ps)), .gone, .ro (.arr es.length 3 (esS es)), .own 78 (.agg [.sl 1 2 [] 5 0 xs.length (some p1), .agg [.int .u8 a, .arr 8 1 (fun q => .int .i64 (rg q)), .sl 3 4 [] 1 0 cs.length (some p2), .int .u32 d, .int .u8 sn], .int .u64 seed, .int .u8 id, .int .u8 ahead, .int .u16 fuel, .int .u16 sq, .sl 5 6 [] 1 0 ps.length (some p3), .sl 7 8 [] 3 0 es.length (some p4)]) true, .own 73 (.arr PP.length 5 (prS PP)) false, .own 2 (.arr CC.length 1 (i64S CC)) false, .own 3 (.arr QQ.length 1 (i64S QQ)) false, .own 39 (.arr L.length 5 (evtsS L)) false, .own 80 (.agg [.int .u64 seed, .int .i64 AH, .int .i64 FU]) true, .own 82 (.agg [.int .i64 ID, .sl 10 10 [] 5 0 PP.length none, .sl 11 11 [] 1 0 CC.length none, .int .i64 d, .int .i64 sq, .sl 12 12 [] 1 0 QQ.length none]) true, .own 87 dn0 true, .own 87 (.agg [(.agg [.int .i64 ID, .sl 10 10 [] 5 0 PP.length none, .sl 11 11 [] 1 0 CC.length none, .int .i64 d, .int .i64 sq, .sl 12 12 [] 1 0 QQ.length none]), .sl 0 0 [] 0 0 0 (some 0), .nat .i64 0]) true] | _ + 1 => [.gone, .gone, .ro (.arr xs.length 5 (prS xs)), .gone, .ro (.arr cs.length 1 (i64S cs)), .gone, .ro (.arr ps.length 1 (u8S ps)), .gone, .ro (.arr es.length 3 (esS es)), .own 78 (.agg [.sl 1 2 [] 5 0 xs.length (some p1), .agg [.int .u8 a, .arr 8 1 (fun q => .int .i64 (rg q)), .sl 3 4 [] 1 0 cs.length (some p2), .int .u32 d, .int .u8 sn], .int .u64 seed, .int .u8 id, .int .u8 ahead, .int .u16 fuel, .int .u16 sq, .sl 5 6 [] 1 0 ps.length (some p3), .sl 7 8 [] 3 0 es.length (some p4)]) true, .own 73 (.arr PP.length 5 (prS PP)) false, .own 2 (.arr CC.length 1 (i64S CC)) false, .own 3 (.arr QQ.length 1 (i64S QQ)) false, .own 39 (.arr L.length 5 (evtsS L)) false, .own 80 (.agg [.int .u64 seed, .int .i64 AH, .int .i64 FU]) true, .own 82 (.agg [.int .i64 ID, .sl 10 10 [] 5 0 PP.length none, .sl 11 11 [] 1 0 CC.length none, .int .i64 d, .int .i64 sq, .sl 12 12 [] 1 0 QQ.length none]) true, .own 87 dn0 true, dnB z.D 18 19 20 21, prO z.D.p.P, i64O z.D.p.cells, inO z.D.p.ports, evO_ z.D.sent])) (fun (z : KD) => k0 - z.k) ⟨0, ⟨⟨ID, PP, CC, d, sq, QQ⟩, [], 0⟩⟩ ⟨Nat.zero_le _, rfl⟩ ?_ ?_ rfl ?_ ?_ rfl ?_
    · exact Vm.b11
    · exact Vm.b8
    · exact Vm.b127
    · exact Vm.b127
    rintro ⟨k, D⟩ ⟨hk, hD⟩
    dsimp only at hk hD ⊢
    have hkl : k < L.length := by omega
    have hFk := fi_all hE0 hok hGb k (by omega) (AllK_le hA hk)
    rw [hD] at hFk
    have hrf := of_decide_eq_true (show decide _ = true from (procE_zero hE0).1)
    dsimp only at hrf
    have hPE := procE_of (procE_zero hE0).1 hFk.hp
    have hlP : D.p.P.length ≤ 1000000 := by rw [hFk.P]; exact hn
    have hlC : D.p.cells.length ≤ 1000000 := by rw [hFk.cl]; exact hc
    have hlQ : D.p.ports.length ≤ 1000000 := by rw [hFk.po]; exact hq
    have hokD : ∀ x ∈ D.p.P, x.ok := by rw [hFk.P]; exact hok
    obtain ⟨e, he⟩ : ∃ e, L.getD k ⟨0, 0, 0, 0, 0⟩ = e := ⟨_, rfl⟩
    have ht := badAt_takes (hGb k hkl)
    rw [he] at ht
    have hOE := oneE_of hPE (e := e) (by rw [takes_eq hFk.id]; exact ht)
    by_cases hkk0 : k < k0
    · have h0 : hE ⟨seed, AH, FU⟩ D.p e = 0 := by
        have := hA k hkk0
        rw [hD, he] at this
        exact this
      rw [h0] at hOE
      have hD' : foldD ⟨seed, AH, FU⟩ ⟨⟨ID, PP, CC, d, sq, QQ⟩, [], 0⟩ (L.take (k + 1)) = hS ⟨seed, AH, FU⟩ D e := by rw [take_snoc ⟨0, 0, 0, 0, 0⟩ hkl, foldD_snoc, hD, he]
      have hF1 := fi_all hE0 hok hGb (k + 1) hkl (AllK_le hA hkk0)
      rw [hD'] at hF1
      have hsu := hF1.su
      have hus := hF1.us
      have hmul : FU * ((k + 1 : Nat) : Int) ≤ 4096 * 10 := Int.le_trans (Int.mul_le_mul_of_nonneg_right hrf.2.2.2 (by omega)) (by omega)
      dsimp only at hus
      have hUl : D.sent.length + (hS ⟨seed, AH, FU⟩ ⟨D.p, [], 0⟩ e).sent.length = (hS ⟨seed, AH, FU⟩ D e).sent.length := by simp [hS]
      have hUu : D.used + (hS ⟨seed, AH, FU⟩ ⟨D.p, [], 0⟩ e).used = (hS ⟨seed, AH, FU⟩ D e).used := by simp [hS]
      have hUc : D.sent ++ (hS ⟨seed, AH, FU⟩ ⟨D.p, [], 0⟩ e).sent = (hS ⟨seed, AH, FU⟩ D e).sent := by simp [hS]
      cases k with
      | zero =>
        obtain rfl : D = ⟨⟨ID, PP, CC, d, sq, QQ⟩, [], 0⟩ := hD.symm
        dsimp only at hsu hus hOE h0 hPE hUl hUu hUc ⊢

        repeat' (first | refine Ctl.h ?_ | ((with_reducible intro hif); first | (focus (cases hif; done)) | (simp only [JH] at hif; try (exfalso; omega)) | (try (exfalso; omega))) | ((first | ((with_reducible apply J22 (cPaX_ok L.length k0) tab_ok); (· rfl)) | ((with_reducible apply J23 fol (cPaX_ok L.length k0) tab_ok); (· rfl)) | with_reducible apply J24); (· exact Vm.b135); (try kernel_rfl); (try exact Vm.b132)) | fail)
        refine At.nextPick [0, 1, 2, 3, 4, 5, 6, 7, 8, 9, 10, 11, 12, 13, 14, 15, 16, 17, 19, 20, 21, 24] ⟨0 + 1, hS ⟨seed, AH, FU⟩ ⟨⟨ID, PP, CC, d, sq, QQ⟩, [], 0⟩ e⟩ ?_ rfl rfl rfl ?_ rfl ?_ ?_ ?_ rfl
        · exact ⟨⟨hkk0, hD'⟩, by dsimp only; omega⟩
        · exact Vm.b37
        · exact Vm.b127
        · exact Vm.b68
        · exact Vm.b127
      | succ k =>
        dsimp only

        repeat' (first | refine Ctl.h ?_ | ((with_reducible intro hif); first | (focus (cases hif; done)) | (simp only [JH] at hif; try (exfalso; omega)) | (try (exfalso; omega))) | ((first | ((with_reducible apply J22 (cPaX_ok L.length k0) tab_ok); (· rfl)) | ((with_reducible apply J23 fol (cPaX_ok L.length k0) tab_ok); (· rfl)) | with_reducible apply J24); (· exact Vm.b135); (try kernel_rfl); (try exact Vm.b132)) | fail)
        refine At.nextPick [0, 1, 2, 3, 4, 5, 6, 7, 8, 9, 10, 11, 12, 13, 14, 15, 16, 17, 23, 24, 25, 28] ⟨k + 1 + 1, hS ⟨seed, AH, FU⟩ D e⟩ ?_ rfl rfl rfl ?_ rfl ?_ ?_ ?_ rfl
        · exact ⟨⟨hkk0, hD'⟩, by dsimp only; omega⟩
        · exact Vm.b128
        · exact Vm.b127
        · exact Vm.b68
        · exact Vm.b127
    · have hkE : k = k0 := by omega
      have hDk := hD
      rw [hkE] at hDk
      have hOH : oneE ⟨seed, AH, FU⟩ D.p e = H := by rw [hOE, ← hH, hDk, ← hkE, he]
      have hOn : oneE ⟨seed, AH, FU⟩ D.p e ≠ 0 := by rw [hOH]; exact hk1
      rw [hL1] at hDk
      have hsu := hFk.su
      have hus := hFk.us
      have hmul : FU * (k : Int) ≤ 4096 * 10 := Int.le_trans (Int.mul_le_mul_of_nonneg_right hrf.2.2.2 (by omega)) (by omega)
      dsimp only at hus
      have hDe := eqD_self D.p D.sent (D.used : Int)
      cases k with
      | zero =>
        obtain rfl : D = ⟨⟨ID, PP, CC, d, sq, QQ⟩, [], 0⟩ := hD.symm
        obtain rfl : k0 = 0 := by omega
        obtain rfl : L1 = [] := by rw [← hL1]; rfl
        dsimp only at hOH hOn hPE hDe ⊢

        repeat' (first | refine Ctl.h ?_ | ((with_reducible intro hif); first | (focus (cases hif; done)) | (simp only [JH] at hif; try (exfalso; omega)) | (try (exfalso; omega))) | ((first | ((with_reducible apply J22 (cPaY_ok L.length 0) tab_ok); (· rfl)) | ((with_reducible apply J23 fol (cPaY_ok L.length 0) tab_ok); (· rfl)) | with_reducible apply J24); (· (simp only [push_cast, ↓JP, Nat.reduceAdd, Nat.reduceEqDiff, Nat.reduceLT, Nat.reduceMul, Nat.reduceLeDiff, reduceCtorEq, reduceIte, ↓JK, cPaY, sAllX, ↓evtS_sz, ↓evtS_ag, ↓evtS_pl, Nat.sub_zero, hPP, hCC, hQQ, hID, hAH, hFU, hL, hkl, he, hOH, hne, foldD_nil, eqD_self, eqD_zero]; rfl)); (try kernel_rfl); (try (focus (first | exact True.intro | ((try simp only [JS, Nat.zero_add, implies_true, forall_const, shaped, shapedL, kndOf, ls_i64S', ls_i64S, ls_prS, ls_prS', ls_u8S, ls_u8S', ls_esS, ls_esS', ls_evtsS', ls_evtsS, ls_evtsS2, ls_length, evtOf_evtS, prc_eta, rul_eta, dnn_eta, iOf, capB, hkl, he, hOH, hne, foldD_nil, eqD_self, eqD_zero, ls_zero]); (repeat' (first | exact True.intro | (exact fun _ _ => isEvt_ite rfl rfl) | assumption | omega | apply And.intro | rfl | decide | intro _)); done) | ((try simp only [JS, implies_true, forall_const, shaped, shapedL, kndOf]); (repeat' (first | assumption | exact True.intro | omega | apply And.intro)); done))))) | fail)
        apply At.endsRet tab_ok (fn := Try.f8) (rs := [.tmp 4]) Anc.refl hro (Nat.le_of_ble_eq_true rfl) rfl
        · exact Vm.b18
        · exact Vm.b7
        · exact Vm.b8
        · rfl
        · exact Vm.b127
        · exact Vm.b10
        · exact fun β => rfl
        · exact Vm.b127
      | succ k =>
        obtain rfl : k0 = k + 1 := by omega
        dsimp only

        repeat' (first | refine Ctl.h ?_ | ((with_reducible intro hif); first | (focus (cases hif; done)) | (simp only [JH] at hif; try (exfalso; omega)) | (try (exfalso; omega))) | ((first | ((with_reducible apply J22 (cPaY_ok L.length (k + 1)) tab_ok); (· rfl)) | ((with_reducible apply J23 fol (cPaY_ok L.length (k + 1)) tab_ok); (· rfl)) | with_reducible apply J24); (· (simp only [push_cast, ↓JP, Nat.reduceAdd, Nat.reduceEqDiff, Nat.reduceLT, Nat.reduceMul, Nat.reduceLeDiff, reduceCtorEq, reduceIte, ↓JK, cPaY, sAllX, ↓evtS_sz, ↓evtS_ag, ↓evtS_pl, Nat.sub_zero, hPP, hCC, hQQ, hID, hAH, hFU, hL, hkl, he, hOH, hne, hT1, hDk, eqD_self, eqD_zero]; rfl)); (try kernel_rfl); (try (focus (first | exact True.intro | ((try simp only [JS, Nat.zero_add, implies_true, forall_const, shaped, shapedL, kndOf, ls_i64S', ls_i64S, ls_prS, ls_prS', ls_u8S, ls_u8S', ls_esS, ls_esS', ls_evtsS', ls_evtsS, ls_evtsS2, ls_length, evtOf_evtS, prc_eta, rul_eta, dnn_eta, iOf, capB, hkl, he, hOH, hne, hT1, hDk, eqD_self, eqD_zero]); (repeat' (first | exact True.intro | (exact fun _ _ => isEvt_ite rfl rfl) | assumption | omega | apply And.intro | rfl | decide | intro _)); done) | ((try simp only [JS, implies_true, forall_const, shaped, shapedL, kndOf]); (repeat' (first | assumption | exact True.intro | omega | apply And.intro)); done))))) | fail)
        apply At.endsRet tab_ok (fn := Try.f8) (rs := [.tmp 4]) Anc.refl hro (Nat.le_of_ble_eq_true rfl) rfl
        · exact Vm.b18
        · exact Vm.b7
        · exact Vm.b8
        · rfl
        · exact Vm.b127
        · exact Vm.b10
        · exact fun β => rfl
        · exact Vm.b127
end Go.Proofs.Ytjliakjbdcplcaa.Vm
end

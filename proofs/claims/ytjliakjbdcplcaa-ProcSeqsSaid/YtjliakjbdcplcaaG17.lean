import Derived.Test.YtjliakjbdcplcaaG6
import Derived.Test.YtjliakjbdcplcaaG7
import Derived.Test.YtjliakjbdcplcaaG8
import Derived.Test.YtjliakjbdcplcaaG11
import Derived.Test.YtjliakjbdcplcaaG15
import Derived.Test.YtjliakjbdcplcaaG16
section
namespace Go.Proofs.Ytjliakjbdcplcaa.Vm
theorem b113 {P : Prop} (h : P := by (repeat' (first | exact trivial | exact rfl | assumption | apply Stable.ite | apply And.intro | intro _ | (simp only [Stable, StableL, pcR, dnB, DnI.at_, dnS, dnR, pcS, i64S, prS, insS, sndsS, sndS, evtsS, evtS, prO, i64O, inO, evO_, cB, sB, HB.stable]; done)))) : P := h
theorem b114 {P : Prop} (h : P := by (first | exact True.intro | ((try simp only [JS, implies_true, forall_const, shaped, shapedL, kndOf, ls_prS, ls_prS', ls_i64S', ls_i64S, ls_evtsS', ls_evtsS, ls_length, prc_eta, iOf]); (repeat' (first | exact True.intro | assumption | omega | apply And.intro | rfl | decide | intro _)); done) | ((try simp only [JS, implies_true, forall_const, shaped, shapedL, kndOf, inR, inN]); (repeat' (first | assumption | exact True.intro | omega | apply And.intro)); done))) : P := h
theorem b115 {P : Prop} (h : P := by (simp only [push_cast, ↓JP, Nat.reduceAdd, Nat.reduceEqDiff, Nat.reduceLT, Nat.reduceMul, Nat.reduceLeDiff, reduceCtorEq, reduceIte, ↓JK, JE, prc_eta, cEq28, sPSame, sSev, isEvt_evtS, ls_evtsS, ls_evtsS', ls_evtsS2, evtsS, inR, inN, q1, q2]; rfl)) : P := h
theorem b116 {P : Prop} (h : P := by (first | exact True.intro | ((try simp only [JS, Nat.zero_add, implies_true, forall_const, shaped, shapedL, kndOf, ls_i64S', ls_i64S, ls_prS, ls_prS', ls_evtsS', ls_evtsS, ls_evtsS2, ls_length, ls_one, evtOf_evtS, prc_eta, rul_eta, dnn_eta, iOf, List.getD_cons_zero, Int.cast_ofNat_Int, capB]); (repeat' (first | exact True.intro | assumption | omega | apply And.intro | rfl | decide | (intro q hq; first | rfl | assumption | exact hq.elim | ((rcases q with _ | _ | q) <;> first | rfl | (exfalso; revert hq; simp; done))) | intro _)); done) | ((try simp only [JS, implies_true, forall_const, shaped, shapedL, kndOf, inR, inN]); (repeat' (first | assumption | exact True.intro | omega | apply And.intro)); done))) : P := h
end Go.Proofs.Ytjliakjbdcplcaa.Vm
end
section
open Go.Proofs.Ytjliakjbdcplcaa.Vm Go.RowKit
attribute [local push_cast] runR opG gtmp gval gus opX tmpsOf tm tmO tmP restr look look2 tab tys zs ets eqB eqBL allB numOf ieq Int.cast_ofNat_Int Int.ofNat_zero beq_true beq_false frameOf ev evL ofV opV loadV noW pushF wrsL setH allBorn allGone HB.born HB.isGone HB.val SV.plain dstOk hp nav fitsT SV.size sizeL SV.isAgg TK.size TK.agg bin binE binN binI arN arI cmpN cmpI keq kn narrow callV storeV setp fillV buildV buildSliceV makeV sliceV appendV appendFV slice3V copyV List.isEmpty_nil srcV evO asN ite_t ite_f ite_bool ite_int ite_nat maxV v_beq v_ble v_blt cond_true cond_false List.getElem?_cons_zero List.getElem?_cons_succ List.getD_cons_zero List.getD_cons_succ List.getD_nil List.length_cons List.length_nil List.take_succ_cons List.take_zero List.set_cons_zero List.set_cons_succ List.cons_append List.nil_append List.append_assoc List.replicate_succ List.replicate_zero Nat.zero_add Nat.add_zero decide_true decide_false Bool.true_and Bool.and_true Bool.false_and Bool.and_false Bool.true_or Bool.or_true Bool.false_or Bool.or_false beq_self_eq_true Bool.or_self Nat.lt_irrefl Nat.not_lt_zero Nat.le_refl Option.getD_some Option.getD_none BEq.rfl Bool.not_true Bool.not_false Bool.cond_true_left Bool.cond_false_right prS sndsS i64S nav_ins nav_ins0 nav_ins1 nav_ins2 nav_ins3 nav_ins4 nav_snd nav_snd0 nav_snd1 nav_snd2 isIns_insS insOf_insS isSnd_sndS sndOf_sndS isI_int isI_nat iOf
section
namespace Go.Proofs.Ytjliakjbdcplcaa.Vm
open Go.RowKit
set_option linter.unusedVariables false
set_option linter.unusedSimpArgs false
set_option maxRecDepth 100000
set_option maxHeartbeats 4000000
def sAllB (i : Nat) : Spec := fun args h m => match args with
  | [.agg [v1, v2, v3], .agg [v4, v5, v6, v7, v8, v9], v10] => match srcV h 5 (.tup []) v5, srcV h 1 (.tup []) v6, srcV h 1 (.tup []) v9, srcV h 5 (.tup []) v10 with
    | some (c5, n5, f5, r5), some (c6, n6, f6, r6), some (c9, n9, f9, r9), some (c10, n10, f10, r10) => bif isI .u64 v1 && isI .i64 v2 && isI .i64 v3 && isI .i64 v4 && isI .i64 v7 && isI .i64 v8 then some (c5 ∧ c6 ∧ c9 ∧ c10 ∧ (∀ q, q < n5 → isIns (f5 q) = true) ∧ (∀ q, q < n6 → isI .i64 (f6 q) = true) ∧ (∀ q, q < n9 → isI .i64 (f9 q) = true) ∧ (∀ q, q < n10 → isEvt (f10 q) = true) ∧ ((∀ x ∈ (ls insOf n5 f5), x.ok)) ∧ (n5 ≤ 1000000) ∧ (n6 ≤ 1000000) ∧ (n9 ≤ 1000000) ∧ (n10 ≤ 200) ∧ (i < (ls evtOf n10 f10).length) ∧ (procE ⟨(iOf v1), (iOf v2), (iOf v3)⟩ ⟨(iOf v4), (ls insOf n5 f5), (ls iOf n6 f6), (iOf v7), (iOf v8), (ls iOf n9 f9)⟩ = 0) ∧ ((∀ q, q < i → badAt ⟨(iOf v4), (ls insOf n5 f5), (ls iOf n6 f6), (iOf v7), (iOf v8), (ls iOf n9 f9)⟩ (ls evtOf n10 f10) q = 0)) ∧ (badAt ⟨(iOf v4), (ls insOf n5 f5), (ls iOf n6 f6), (iOf v7), (iOf v8), (ls iOf n9 f9)⟩ (ls evtOf n10 f10) i ≠ 0), .tup [dn0, .nat .i64 i, .int .i64 (badAt ⟨(iOf v4), (ls insOf n5 f5), (ls iOf n6 f6), (iOf v7), (iOf v8), (ls iOf n9 f9)⟩ (ls evtOf n10 f10) i)], r5 ++ r6 ++ r9 ++ r10, []) else none
    | _, _, _, _ => none
  | _ => none
theorem sAllB_ok (i : Nat) : CallOk Try.prog 32 (sAllB i) := by
  refine ⟨named_spec (by kernel_rfl), fun args h m c v rd wr hs hm hc w0 M β h' w R hrd hwr hst => ?_⟩
  unfold sAllB at hs
  split at hs
  · rename_i v1 v2 v3 v4 v5 v6 v7 v8 v9 v10
    split at hs
    · rename_i c5 n5 f5 r5 c6 n6 f6 r6 c9 n9 f9 r9 c10 n10 f10 r10 a5 a6 a9 a10
      obtain ⟨hb, hs⟩ := bif_some hs
      simp only [Option.some.injEq, Prod.mk.injEq] at hs
      obtain ⟨rfl, rfl, rfl, rfl⟩ := hs
      simp only [Bool.and_eq_true] at hb
      obtain ⟨⟨⟨⟨⟨b1, b2⟩, b3⟩, b4⟩, b7⟩, b8⟩ := hb
      obtain ⟨k5, k6, k9, k10, g5, g6, g9, g10, y1, y2, y3, y4, y5, y6, y7, y8, y9⟩ := hc
      obtain ⟨A5, p5, d5, e5, t5⟩ := reads_src R a5 k5 (fun i hi => hrd i (List.mem_append_left _ (List.mem_append_left _ (List.mem_append_left _ hi)))) (by omega)
      obtain ⟨A6, p6, d6, e6, t6⟩ := reads_src R a6 k6 (fun i hi => hrd i (List.mem_append_left _ (List.mem_append_left _ (List.mem_append_right _ hi)))) (by omega)
      obtain ⟨A9, p9, d9, e9, t9⟩ := reads_src R a9 k9 (fun i hi => hrd i (List.mem_append_left _ (List.mem_append_right _ hi))) (by omega)
      obtain ⟨A10, p10, d10, e10, t10⟩ := reads_src R a10 k10 (fun i hi => hrd i (List.mem_append_right _ hi)) (by omega)
      refine callRo (views := [⟨5, (ls insOf n5 f5).length, prS (ls insOf n5 f5), A5, p5⟩, ⟨1, (ls iOf n6 f6).length, i64S (ls iOf n6 f6), A6, p6⟩, ⟨1, (ls iOf n9 f9).length, i64S (ls iOf n9 f9), A9, p9⟩, ⟨5, (ls evtOf n10 f10).length, evtsS (ls evtOf n10 f10), A10, p10⟩]) (all_bad ⟨(iOf v1), (iOf v2), (iOf v3)⟩ ⟨(iOf v4), (ls insOf n5 f5), (ls iOf n6 f6), (iOf v7), (iOf v8), (ls iOf n9 f9)⟩ (ls evtOf n10 f10) p5 p6 p9 p10 y1 (by rw [ls_length]; exact y2) (by rw [ls_length]; exact y3) (by rw [ls_length]; exact y4) (by rw [ls_length]; exact y5) i y6 y7 y8 y9) ?_ R hm hwr ?_ ?_ ?_
      · intro x hx
        simp only [List.mem_cons, List.not_mem_nil, or_false] at hx
        rcases hx with rfl | rfl | rfl | rfl
        · exact viewIns t5 e5 g5
        · exact viewI64 t6 e6 g6
        · exact viewI64 t9 e9 g9
        · exact viewEvt t10 e10 g10
      · intro β1 hv
        simp only [Vd, ls_length, and_true] at hv
        obtain ⟨z5, z6, z9, z10⟩ := hv
        simp only [denL, aggDen, intDen, natDen, boolDen, ls_length, z5, z6, z9, z10, d5, d6, d9, d10, isI_den b1, isI_den b2, isI_den b3, isI_den b4, isI_den b7, isI_den b8]
      · exact Vm.b102
      · exact Vm.b102
    · cases hs
  · cases hs
def sAllF (i : Nat) : Spec := fun args h m => match args with
  | [.agg [v1, v2, v3], .agg [v4, v5, v6, v7, v8, v9], v10] => match srcV h 5 (.tup []) v5, srcV h 1 (.tup []) v6, srcV h 1 (.tup []) v9, srcV h 5 (.tup []) v10 with
    | some (c5, n5, f5, r5), some (c6, n6, f6, r6), some (c9, n9, f9, r9), some (c10, n10, f10, r10) => bif isI .u64 v1 && isI .i64 v2 && isI .i64 v3 && isI .i64 v4 && isI .i64 v7 && isI .i64 v8 then some (c5 ∧ c6 ∧ c9 ∧ c10 ∧ (∀ q, q < n5 → isIns (f5 q) = true) ∧ (∀ q, q < n6 → isI .i64 (f6 q) = true) ∧ (∀ q, q < n9 → isI .i64 (f9 q) = true) ∧ (∀ q, q < n10 → isEvt (f10 q) = true) ∧ ((∀ x ∈ (ls insOf n5 f5), x.ok)) ∧ (n5 ≤ 1000000) ∧ (n6 ≤ 1000000) ∧ (n9 ≤ 1000000) ∧ (n10 ≤ 200) ∧ (i < (ls evtOf n10 f10).length) ∧ (procE ⟨(iOf v1), (iOf v2), (iOf v3)⟩ ⟨(iOf v4), (ls insOf n5 f5), (ls iOf n6 f6), (iOf v7), (iOf v8), (ls iOf n9 f9)⟩ = 0) ∧ ((∀ q, q < (ls evtOf n10 f10).length → badAt ⟨(iOf v4), (ls insOf n5 f5), (ls iOf n6 f6), (iOf v7), (iOf v8), (ls iOf n9 f9)⟩ (ls evtOf n10 f10) q = 0)) ∧ (AllK ⟨(iOf v1), (iOf v2), (iOf v3)⟩ ⟨⟨(iOf v4), (ls insOf n5 f5), (ls iOf n6 f6), (iOf v7), (iOf v8), (ls iOf n9 f9)⟩, [], 0⟩ (ls evtOf n10 f10) i) ∧ (hE ⟨(iOf v1), (iOf v2), (iOf v3)⟩ (foldD ⟨(iOf v1), (iOf v2), (iOf v3)⟩ ⟨⟨(iOf v4), (ls insOf n5 f5), (ls iOf n6 f6), (iOf v7), (iOf v8), (ls iOf n9 f9)⟩, [], 0⟩ ((ls evtOf n10 f10).take i)).p ((ls evtOf n10 f10).getD i ⟨0, 0, 0, 0, 0⟩) ≠ 0), .tup [dn0, .nat .i64 i, .int .i64 (hE ⟨(iOf v1), (iOf v2), (iOf v3)⟩ (foldD ⟨(iOf v1), (iOf v2), (iOf v3)⟩ ⟨⟨(iOf v4), (ls insOf n5 f5), (ls iOf n6 f6), (iOf v7), (iOf v8), (ls iOf n9 f9)⟩, [], 0⟩ ((ls evtOf n10 f10).take i)).p ((ls evtOf n10 f10).getD i ⟨0, 0, 0, 0, 0⟩))], r5 ++ r6 ++ r9 ++ r10, []) else none
    | _, _, _, _ => none
  | _ => none
theorem sAllF_ok (i : Nat) : CallOk Try.prog 32 (sAllF i) := by
  refine ⟨named_spec (by kernel_rfl), fun args h m c v rd wr hs hm hc w0 M β h' w R hrd hwr hst => ?_⟩
  unfold sAllF at hs
  split at hs
  · rename_i v1 v2 v3 v4 v5 v6 v7 v8 v9 v10
    split at hs
    · rename_i c5 n5 f5 r5 c6 n6 f6 r6 c9 n9 f9 r9 c10 n10 f10 r10 a5 a6 a9 a10
      obtain ⟨hb, hs⟩ := bif_some hs
      simp only [Option.some.injEq, Prod.mk.injEq] at hs
      obtain ⟨rfl, rfl, rfl, rfl⟩ := hs
      simp only [Bool.and_eq_true] at hb
      obtain ⟨⟨⟨⟨⟨b1, b2⟩, b3⟩, b4⟩, b7⟩, b8⟩ := hb
      obtain ⟨k5, k6, k9, k10, g5, g6, g9, g10, y1, y2, y3, y4, y5, y6, y7, y8, y9, y10⟩ := hc
      obtain ⟨A5, p5, d5, e5, t5⟩ := reads_src R a5 k5 (fun i hi => hrd i (List.mem_append_left _ (List.mem_append_left _ (List.mem_append_left _ hi)))) (by omega)
      obtain ⟨A6, p6, d6, e6, t6⟩ := reads_src R a6 k6 (fun i hi => hrd i (List.mem_append_left _ (List.mem_append_left _ (List.mem_append_right _ hi)))) (by omega)
      obtain ⟨A9, p9, d9, e9, t9⟩ := reads_src R a9 k9 (fun i hi => hrd i (List.mem_append_left _ (List.mem_append_right _ hi))) (by omega)
      obtain ⟨A10, p10, d10, e10, t10⟩ := reads_src R a10 k10 (fun i hi => hrd i (List.mem_append_right _ hi)) (by omega)
      refine callRo (views := [⟨5, (ls insOf n5 f5).length, prS (ls insOf n5 f5), A5, p5⟩, ⟨1, (ls iOf n6 f6).length, i64S (ls iOf n6 f6), A6, p6⟩, ⟨1, (ls iOf n9 f9).length, i64S (ls iOf n9 f9), A9, p9⟩, ⟨5, (ls evtOf n10 f10).length, evtsS (ls evtOf n10 f10), A10, p10⟩]) (all_fail ⟨(iOf v1), (iOf v2), (iOf v3)⟩ ⟨(iOf v4), (ls insOf n5 f5), (ls iOf n6 f6), (iOf v7), (iOf v8), (ls iOf n9 f9)⟩ (ls evtOf n10 f10) p5 p6 p9 p10 y1 (by rw [ls_length]; exact y2) (by rw [ls_length]; exact y3) (by rw [ls_length]; exact y4) (by rw [ls_length]; exact y5) y7 y8 i y6 y9 y10) ?_ R hm hwr ?_ ?_ ?_
      · intro x hx
        simp only [List.mem_cons, List.not_mem_nil, or_false] at hx
        rcases hx with rfl | rfl | rfl | rfl
        · exact viewIns t5 e5 g5
        · exact viewI64 t6 e6 g6
        · exact viewI64 t9 e9 g9
        · exact viewEvt t10 e10 g10
      · intro β1 hv
        simp only [Vd, ls_length, and_true] at hv
        obtain ⟨z5, z6, z9, z10⟩ := hv
        simp only [denL, aggDen, intDen, natDen, boolDen, ls_length, z5, z6, z9, z10, d5, d6, d9, d10, isI_den b1, isI_den b2, isI_den b3, isI_den b4, isI_den b7, isI_den b8]
      · exact Vm.b102
      · exact Vm.b102
    · cases hs
  · cases hs
def sAllG : Spec := fun args h m => match args with
  | [.agg [v1, v2, v3], .agg [v4, v5, v6, v7, v8, v9], v10] => match srcV h 5 (.tup []) v5, srcV h 1 (.tup []) v6, srcV h 1 (.tup []) v9, srcV h 5 (.tup []) v10 with
    | some (c5, n5, f5, r5), some (c6, n6, f6, r6), some (c9, n9, f9, r9), some (c10, n10, f10, r10) => bif isI .u64 v1 && isI .i64 v2 && isI .i64 v3 && isI .i64 v4 && isI .i64 v7 && isI .i64 v8 then some (c5 ∧ c6 ∧ c9 ∧ c10 ∧ (∀ q, q < n5 → isIns (f5 q) = true) ∧ (∀ q, q < n6 → isI .i64 (f6 q) = true) ∧ (∀ q, q < n9 → isI .i64 (f9 q) = true) ∧ (∀ q, q < n10 → isEvt (f10 q) = true) ∧ ((∀ x ∈ (ls insOf n5 f5), x.ok)) ∧ (n5 ≤ 1000000) ∧ (n6 ≤ 1000000) ∧ (n9 ≤ 1000000) ∧ (n10 ≤ 200) ∧ (procE ⟨(iOf v1), (iOf v2), (iOf v3)⟩ ⟨(iOf v4), (ls insOf n5 f5), (ls iOf n6 f6), (iOf v7), (iOf v8), (ls iOf n9 f9)⟩ = 0) ∧ ((∀ q, q < (ls evtOf n10 f10).length → badAt ⟨(iOf v4), (ls insOf n5 f5), (ls iOf n6 f6), (iOf v7), (iOf v8), (ls iOf n9 f9)⟩ (ls evtOf n10 f10) q = 0)) ∧ (AllK ⟨(iOf v1), (iOf v2), (iOf v3)⟩ ⟨⟨(iOf v4), (ls insOf n5 f5), (ls iOf n6 f6), (iOf v7), (iOf v8), (ls iOf n9 f9)⟩, [], 0⟩ (ls evtOf n10 f10) (ls evtOf n10 f10).length), .tup [dnS (foldD ⟨(iOf v1), (iOf v2), (iOf v3)⟩ ⟨⟨(iOf v4), (ls insOf n5 f5), (ls iOf n6 f6), (iOf v7), (iOf v8), (ls iOf n9 f9)⟩, [], 0⟩ (ls evtOf n10 f10)) m (m + 1) (m + 2) (m + 3), .int .i64 (-1), .int .i64 0], r5 ++ r6 ++ r9 ++ r10, [(m, prO (foldD ⟨(iOf v1), (iOf v2), (iOf v3)⟩ ⟨⟨(iOf v4), (ls insOf n5 f5), (ls iOf n6 f6), (iOf v7), (iOf v8), (ls iOf n9 f9)⟩, [], 0⟩ (ls evtOf n10 f10)).p.P), (m + 1, i64O (foldD ⟨(iOf v1), (iOf v2), (iOf v3)⟩ ⟨⟨(iOf v4), (ls insOf n5 f5), (ls iOf n6 f6), (iOf v7), (iOf v8), (ls iOf n9 f9)⟩, [], 0⟩ (ls evtOf n10 f10)).p.cells), (m + 2, inO (foldD ⟨(iOf v1), (iOf v2), (iOf v3)⟩ ⟨⟨(iOf v4), (ls insOf n5 f5), (ls iOf n6 f6), (iOf v7), (iOf v8), (ls iOf n9 f9)⟩, [], 0⟩ (ls evtOf n10 f10)).p.ports), (m + 3, evO_ (foldD ⟨(iOf v1), (iOf v2), (iOf v3)⟩ ⟨⟨(iOf v4), (ls insOf n5 f5), (ls iOf n6 f6), (iOf v7), (iOf v8), (ls iOf n9 f9)⟩, [], 0⟩ (ls evtOf n10 f10)).sent)]) else none
    | _, _, _, _ => none
  | _ => none
theorem sAllG_ok : CallOk Try.prog 32 sAllG := by
  refine ⟨named_spec (by kernel_rfl), fun args h m c v rd wr hs hm hc w0 M β h' w R hrd hwr hst => ?_⟩
  unfold sAllG at hs
  split at hs
  · rename_i v1 v2 v3 v4 v5 v6 v7 v8 v9 v10
    split at hs
    · rename_i c5 n5 f5 r5 c6 n6 f6 r6 c9 n9 f9 r9 c10 n10 f10 r10 a5 a6 a9 a10
      obtain ⟨hb, hs⟩ := bif_some hs
      simp only [Option.some.injEq, Prod.mk.injEq] at hs
      obtain ⟨rfl, rfl, rfl, rfl⟩ := hs
      simp only [Bool.and_eq_true] at hb
      obtain ⟨⟨⟨⟨⟨b1, b2⟩, b3⟩, b4⟩, b7⟩, b8⟩ := hb
      obtain ⟨k5, k6, k9, k10, g5, g6, g9, g10, y1, y2, y3, y4, y5, y6, y7, y8⟩ := hc
      obtain ⟨A5, p5, d5, e5, t5⟩ := reads_src R a5 k5 (fun i hi => hrd i (List.mem_append_left _ (List.mem_append_left _ (List.mem_append_left _ hi)))) (by omega)
      obtain ⟨A6, p6, d6, e6, t6⟩ := reads_src R a6 k6 (fun i hi => hrd i (List.mem_append_left _ (List.mem_append_left _ (List.mem_append_right _ hi)))) (by omega)
      obtain ⟨A9, p9, d9, e9, t9⟩ := reads_src R a9 k9 (fun i hi => hrd i (List.mem_append_left _ (List.mem_append_right _ hi))) (by omega)
      obtain ⟨A10, p10, d10, e10, t10⟩ := reads_src R a10 k10 (fun i hi => hrd i (List.mem_append_right _ hi)) (by omega)
      refine callRo (views := [⟨5, (ls insOf n5 f5).length, prS (ls insOf n5 f5), A5, p5⟩, ⟨1, (ls iOf n6 f6).length, i64S (ls iOf n6 f6), A6, p6⟩, ⟨1, (ls iOf n9 f9).length, i64S (ls iOf n9 f9), A9, p9⟩, ⟨5, (ls evtOf n10 f10).length, evtsS (ls evtOf n10 f10), A10, p10⟩]) (all_ok ⟨(iOf v1), (iOf v2), (iOf v3)⟩ ⟨(iOf v4), (ls insOf n5 f5), (ls iOf n6 f6), (iOf v7), (iOf v8), (ls iOf n9 f9)⟩ (ls evtOf n10 f10) p5 p6 p9 p10 y1 (by rw [ls_length]; exact y2) (by rw [ls_length]; exact y3) (by rw [ls_length]; exact y4) (by rw [ls_length]; exact y5) y6 y7 y8) ?_ R hm hwr ?_ ?_ ?_
      · intro x hx
        simp only [List.mem_cons, List.not_mem_nil, or_false] at hx
        rcases hx with rfl | rfl | rfl | rfl
        · exact viewIns t5 e5 g5
        · exact viewI64 t6 e6 g6
        · exact viewI64 t9 e9 g9
        · exact viewEvt t10 e10 g10
      · intro β1 hv
        simp only [Vd, ls_length, and_true] at hv
        obtain ⟨z5, z6, z9, z10⟩ := hv
        simp only [denL, aggDen, intDen, natDen, boolDen, ls_length, z5, z6, z9, z10, d5, d6, d9, d10, isI_den b1, isI_den b2, isI_den b3, isI_den b4, isI_den b7, isI_den b8]
      · exact Vm.b102
      · exact Vm.b102
    · cases hs
  · cases hs
def cNw28 : FuncId → Option Spec := look2 [(43, sClI), (61, sClN), (62, sPRight)]
theorem cNw28_ok : ∀ f S, cNw28 f = some S → CallOk Try.prog f S := allOk_spec ⟨sClI_ok, sClN_ok, sPRight_ok, trivial⟩
def newP (id : Int) (P : List Ins) (c : Nat) (ps : List Int) : Prc := ⟨id, P, List.replicate c 0, 0, 0, ps⟩
def pc0 : SV := .agg [.nat .i64 0, .sl 0 0 [] 0 0 0 (some 0), .sl 0 0 [] 0 0 0 (some 0), .nat .i64 0, .nat .i64 0, .sl 0 0 [] 0 0 0 (some 0)]
theorem ls_zero_rep (n : Nat) : ls iOf n (fun _ => SV.nat .i64 0) = List.replicate n 0 := by
  unfold ls
  simp [iOf, List.map_const']
theorem less_rep {t n : Nat} {σ : Nat → Nat} : Less (.own t (.arr n 1 fun _ => .nat .i64 0) false) ((HB.own t (.arr (List.replicate n (0 : Int)).length 1 (i64S (List.replicate n 0))) false).ren σ) := by
  rw [List.length_replicate]
  have e : (HB.own t (.arr n 1 (i64S (List.replicate n 0))) false).ren σ = .own t (.arr n 1 (i64S (List.replicate n 0))) false := rfl
  rw [e]
  exact .val (fun β => arrCl fun q hq => by
      unfold i64S
      rw [List.getD_eq_getElem?_getD, List.getElem?_eq_getElem (by simpa using hq)]
      simp; rfl) (fun n1 k1 f1 e => by injection e with e1 e2 e3; subst e1 e2; exact ⟨_, rfl⟩) (fun n1 k1 f1 e => by injection e with e1 e2 e3; subst e1 e2; exact ⟨_, rfl⟩)
theorem new_ok (id : Int) (c : Nat) (P : List Ins) (ps : List Int) (p1 p2 : Nat) (hok : ∀ x ∈ P, x.ok) (hn : P.length ≤ 1000000) (hpo : ps.length ≤ 1000000) (c1 : c ≤ 1024) (hr : (newP id P c ps).rightB = true) : LitOk Try.prog 34 [.int .i64 id, .sl 1 2 [] 5 0 P.length (some p1), .nat .i64 c, .sl 3 4 [] 1 0 ps.length (some p2)] [.gone, .gone, .ro (.arr P.length 5 (prS P)), .gone, .ro (.arr ps.length 1 (i64S ps))] (.tup [pcS (newP id P c ps) 5 6 7, .int .i64 0]) [.gone, .gone, .gone, .gone, .gone, prO P, i64O (newP id P c ps).cells, inO ps] := by
  have h2 : ¬ 1024 < c := by omega
  have hr' : Prc.rightB ⟨id, P, List.replicate c 0, 0, 0, ps⟩ = true := hr
  refine litOkM (fn := Try.f34) 5 31 0 rfl rfl rfl rfl rfl (by simp only [StableL, Stable, hp, pcS, dnB, DnI.at_, dnS, dnR, i64S, prS, insS, sndsS, sndS, evtsS, evtS, prO, i64O, inO, evO_, cB, sB, HB.stable]; simp [HB.born]) rfl fun w0 M E hro => ?_
  repeat' (first | with_reducible (first | apply J1 | apply J3 | apply J4 | apply J5 | apply J6 | apply J7 | apply J8 | apply J9 | apply J10 | apply J11 | apply J12 | apply J13 | apply J14 | apply J15 | apply J16 | apply J17 | apply J18 | apply J19 | apply J20 | refine J2 ?_) | ((with_reducible apply J21); (· rfl)) | ((with_reducible intro hif); first | (focus (cases hif; done)) | (simp only [JH] at hif; try (exfalso; omega)) | (try (exfalso; omega))) | ((first | ((with_reducible apply J22 cNw28_ok tab_ok); (· rfl)) | ((with_reducible apply J23 fol cNw28_ok tab_ok); (· rfl)) | with_reducible apply J24); (· (simp only [push_cast, ↓JP, Nat.reduceAdd, Nat.reduceEqDiff, Nat.reduceLT, Nat.reduceMul, Nat.reduceLeDiff, reduceCtorEq, reduceIte, ↓JK, JE, prc_eta, cNw28, sClI, sClN, sPRight, inR, inN, ls_zero_rep, prO, i64O, inO, pc0, h2, hr']; rfl)); (try kernel_rfl); (try (focus (first | exact True.intro | ((try simp only [JS, implies_true, forall_const, shaped, shapedL, kndOf, ls_prS, ls_prS', ls_i64S', ls_i64S, ls_length, prc_eta, iOf]); (repeat' (first | exact True.intro | assumption | omega | apply And.intro | rfl | decide | intro _)); done) | ((try simp only [JS, implies_true, forall_const, shaped, shapedL, kndOf, inR, inN]); (repeat' (first | assumption | exact True.intro | omega | apply And.intro)); done))))) | fail)
  refine At.put 7 (.own 2 (.arr c 1 fun _ => .nat .i64 0) false) .loose (fun q => trivial) rfl rfl ?_
  simp only [setH]
  apply At.endsPick [0, 1, 2, 3, 4, 6, 7, 8] tab_ok (fn := Try.f34) (rs := [.cell 8 82, .tmp 9]) Anc.refl hro (Nat.le_of_ble_eq_true rfl) rfl
  · exact Vm.b15
  · exact Vm.b21
  · rfl
  · rfl
  · rfl
  · (repeat' (first | exact trivial | exact .inl rfl | exact .inr (.same _) | exact .inr .loose | exact .inr (.arr (by assumption)) | apply And.intro | exact .inr less_rep))
  · rfl
  · exact Vm.b102
  · exact Vm.b9
  · intro β; simp only [pcS, newP, List.length_replicate]; rfl
  · exact Vm.b102
def sNewPG : Spec := fun args h m => match args with
  | [v1, v2, .nat q3 v3, v4] => match srcV h 5 (.tup []) v2, srcV h 1 (.tup []) v4 with
    | some (c2, n2, f2, r2), some (c4, n4, f4, r4) => bif isI .i64 v1 && keq q3 .i64 then some (c2 ∧ c4 ∧ (∀ q, q < n2 → isIns (f2 q) = true) ∧ (∀ q, q < n4 → isI .i64 (f4 q) = true) ∧ ((∀ x ∈ (ls insOf n2 f2), x.ok)) ∧ (n2 ≤ 1000000) ∧ (n4 ≤ 1000000) ∧ (v3 ≤ 1024) ∧ ((newP (iOf v1) (ls insOf n2 f2) v3 (ls iOf n4 f4)).rightB = true), .tup [pcS (newP (iOf v1) (ls insOf n2 f2) v3 (ls iOf n4 f4)) m (m + 1) (m + 2), .int .i64 0], r2 ++ r4, [(m, prO (ls insOf n2 f2)), (m + 1, i64O (newP (iOf v1) (ls insOf n2 f2) v3 (ls iOf n4 f4)).cells), (m + 2, inO (ls iOf n4 f4))]) else none
    | _, _ => none
  | _ => none
theorem sNewPG_ok : CallOk Try.prog 34 sNewPG := by
  refine ⟨named_spec (by kernel_rfl), fun args h m c v rd wr hs hm hc w0 M β h' w R hrd hwr hst => ?_⟩
  unfold sNewPG at hs
  split at hs
  · rename_i v1 v2 q3 v3 v4
    split at hs
    · rename_i c2 n2 f2 r2 c4 n4 f4 r4 a2 a4
      obtain ⟨hb, hs⟩ := bif_some hs
      simp only [Option.some.injEq, Prod.mk.injEq] at hs
      obtain ⟨rfl, rfl, rfl, rfl⟩ := hs
      simp only [Bool.and_eq_true] at hb
      obtain ⟨b1, b3⟩ := hb
      have w3 := keq_eq b3
      subst w3
      obtain ⟨k2, k4, g2, g4, y1, y2, y3, y4, y5⟩ := hc
      obtain ⟨A2, p2, d2, e2, t2⟩ := reads_src R a2 k2 (fun i hi => hrd i (List.mem_append_left _ hi)) (by omega)
      obtain ⟨A4, p4, d4, e4, t4⟩ := reads_src R a4 k4 (fun i hi => hrd i (List.mem_append_right _ hi)) (by omega)
      refine callRo (views := [⟨5, (ls insOf n2 f2).length, prS (ls insOf n2 f2), A2, p2⟩, ⟨1, (ls iOf n4 f4).length, i64S (ls iOf n4 f4), A4, p4⟩]) (new_ok (iOf v1) v3 (ls insOf n2 f2) (ls iOf n4 f4) p2 p4 y1 (by rw [ls_length]; exact y2) (by rw [ls_length]; exact y3) y4 y5) ?_ R hm hwr ?_ ?_ ?_
      · intro x hx
        simp only [List.mem_cons, List.not_mem_nil, or_false] at hx
        rcases hx with rfl | rfl
        · exact viewIns t2 e2 g2
        · exact viewI64 t4 e4 g4
      · intro β1 hv
        simp only [Vd, ls_length, and_true] at hv
        obtain ⟨z2, z4⟩ := hv
        simp only [denL, aggDen, intDen, natDen, boolDen, ls_length, z2, z4, d2, d4, isI_den b1]
      · exact Vm.b102
      · exact Vm.b102
    · cases hs
  · cases hs
theorem ls_evtsS2 (l : List Evt) : ls evtOf l.length (fun q => evtS (l.getD q ⟨0, 0, 0, 0, 0⟩)) = l := ls_evtsS l
def cSev : FuncId → Option Spec := look2 [(88, sSmEvt)]
theorem cSev_ok : ∀ f S, cSev f = some S → CallOk Try.prog f S := allOk_spec ⟨sSmEvt_ok, trivial⟩
theorem sev_lit (xs ys : List Evt) (p1 p2 : Nat) (hx : xs.length ≤ 281474976710656) : LitOk Try.prog 60 [.sl 1 2 [] 5 0 xs.length (some p1), .sl 3 4 [] 5 0 ys.length (some p2)] [.gone, .gone, .ro (.arr xs.length 5 (evtsS xs)), .gone, .ro (.arr ys.length 5 (evtsS ys))] (.bool (eqL xs ys)) [.gone] := by
  refine litOkM (fn := Try.f60) 5 8 0 rfl rfl rfl rfl rfl (by simp only [StableL, Stable, hp, pcS, dnB, DnI.at_, dnS, dnR, i64S, prS, insS, sndsS, sndS, evtsS, evtS, prO, i64O, inO, evO_, cB, sB, HB.stable]; simp [HB.born]) rfl fun w0 M E hro => ?_
  repeat' (first | with_reducible (first | apply J1 | apply J3 | apply J4 | apply J5 | apply J6 | apply J7 | apply J8 | apply J9 | apply J10 | apply J11 | apply J12 | apply J13 | apply J14 | apply J15 | apply J16 | apply J17 | apply J18 | apply J19 | apply J20 | refine J2 ?_) | ((with_reducible apply J21); (· rfl)) | ((with_reducible intro hif); first | (focus (cases hif; done)) | (simp only [JH] at hif; try (exfalso; omega)) | (try (exfalso; omega))) | ((first | ((with_reducible apply J22 cSev_ok tab_ok); (· rfl)) | ((with_reducible apply J23 fol cSev_ok tab_ok); (· rfl)) | with_reducible apply J24); (· (simp only [push_cast, ↓JP, Nat.reduceAdd, Nat.reduceEqDiff, Nat.reduceLT, Nat.reduceMul, Nat.reduceLeDiff, reduceCtorEq, reduceIte, ↓JK, cSev, sSmEvt, isEvt_evtS, ls_evtsS, ls_evtsS', ls_evtsS2, evtsS, inR, inN]; rfl)); (try kernel_rfl); (try (focus (first | exact True.intro | ((try simp only [JS, implies_true, ls_evtsS, ls_evtsS', ls_length]); (repeat' (first | exact True.intro | assumption | omega | apply And.intro | rfl | intro _)); done) | ((try simp only [JS, implies_true, forall_const, shaped, shapedL, kndOf, inR, inN]); (repeat' (first | assumption | exact True.intro | omega | apply And.intro)); done))))) | fail)
  apply At.endsRet tab_ok (fn := Try.f60) (rs := [.tmp 4]) Anc.refl hro (Nat.le_of_ble_eq_true rfl) rfl
  · exact Vm.b15
  · exact Vm.b6
  · exact Vm.b7
  · rfl
  · exact Vm.b102
  · exact Vm.b9
  · exact fun β => rfl
  · exact Vm.b102
def sSev : Spec := fun args h m => match args with
  | [v1, v2] => match srcV h 5 (.tup []) v1, srcV h 5 (.tup []) v2 with
    | some (c1, n1, f1, r1), some (c2, n2, f2, r2) => some (c1 ∧ c2 ∧ (∀ q, q < n1 → isEvt (f1 q) = true) ∧ (∀ q, q < n2 → isEvt (f2 q) = true) ∧ ((ls evtOf n1 f1).length ≤ 281474976710656), .bool (eqL (ls evtOf n1 f1) (ls evtOf n2 f2)), r1 ++ r2, [])
    | _, _ => none
  | _ => none
theorem sSev_ok : CallOk Try.prog 60 sSev := by
  refine ⟨named_spec (by kernel_rfl), fun args h m c v rd wr hs hm hc w0 M β h' w R hrd hwr hst => ?_⟩
  unfold sSev at hs
  split at hs
  · rename_i v1 v2
    split at hs
    · rename_i c1 n1 f1 r1 c2 n2 f2 r2 a1 a2
      simp only [Option.some.injEq, Prod.mk.injEq] at hs
      obtain ⟨rfl, rfl, rfl, rfl⟩ := hs
      obtain ⟨k1, k2, g1, g2, y1⟩ := hc
      obtain ⟨A1, p1, d1, e1, t1⟩ := reads_src R a1 k1 (fun i hi => hrd i (List.mem_append_left _ hi)) (by omega)
      obtain ⟨A2, p2, d2, e2, t2⟩ := reads_src R a2 k2 (fun i hi => hrd i (List.mem_append_right _ hi)) (by omega)
      refine callRo (views := [⟨5, (ls evtOf n1 f1).length, evtsS (ls evtOf n1 f1), A1, p1⟩, ⟨5, (ls evtOf n2 f2).length, evtsS (ls evtOf n2 f2), A2, p2⟩]) (sev_lit (ls evtOf n1 f1) (ls evtOf n2 f2) p1 p2 y1) ?_ R hm hwr ?_ ?_ ?_
      · intro x hx
        simp only [List.mem_cons, List.not_mem_nil, or_false] at hx
        rcases hx with rfl | rfl
        · exact viewEvt t1 e1 g1
        · exact viewEvt t2 e2 g2
      · intro β1 hv
        simp only [Vd, ls_length, and_true] at hv
        obtain ⟨z1, z2⟩ := hv
        simp only [denL, aggDen, intDen, natDen, boolDen, ls_length, z1, z2, d1, d2]
      · exact Vm.b102
      · exact Vm.b102
    · cases hs
  · cases hs
def cEq28 : FuncId → Option Spec := look2 [(59, sPSame), (60, sSev)]
theorem cEq28_ok : ∀ f S, cEq28 f = some S → CallOk Try.prog f S := allOk_spec ⟨sPSame_ok, sSev_ok, trivial⟩
def eqD (a : Prc) (as_ : List Evt) (au : Int) (b : Prc) (bs : List Evt) (bu : Int) : Bool := eqP a b && (eqL as_ bs && decide (au = bu))
theorem eq28_lit (a b : Prc) (as_ bs : List Evt) (au bu : Int) (p1 p2 p3 p4 q1 q2 q3 q4 : Nat) (hn : a.P.length ≤ 1000000) (hc : a.cells.length ≤ 1000000) (hpo : a.ports.length ≤ 1000000) (hs : as_.length ≤ 1000000) : LitOk Try.prog 33 [.agg [.agg [.int .i64 a.id, .sl 1 2 [] 5 0 a.P.length (some p1), .sl 3 4 [] 1 0 a.cells.length (some p2), .int .i64 a.draws, .int .i64 a.seq, .sl 5 6 [] 1 0 a.ports.length (some p3)], .sl 7 8 [] 5 0 as_.length (some p4), .int .i64 au], .agg [.agg [.int .i64 b.id, .sl 9 10 [] 5 0 b.P.length (some q1), .sl 11 12 [] 1 0 b.cells.length (some q2), .int .i64 b.draws, .int .i64 b.seq, .sl 13 14 [] 1 0 b.ports.length (some q3)], .sl 15 16 [] 5 0 bs.length (some q4), .int .i64 bu]]
    [.gone, .gone, .ro (.arr a.P.length 5 (prS a.P)), .gone, .ro (.arr a.cells.length 1 (i64S a.cells)), .gone, .ro (.arr a.ports.length 1 (i64S a.ports)), .gone, .ro (.arr as_.length 5 (evtsS as_)), .gone, .ro (.arr b.P.length 5 (prS b.P)), .gone, .ro (.arr b.cells.length 1 (i64S b.cells)), .gone, .ro (.arr b.ports.length 1 (i64S b.ports)), .gone, .ro (.arr bs.length 5 (evtsS bs))] (.bool (eqD a as_ au b bs bu)) [.gone] := by
  have hs2 : as_.length ≤ 281474976710656 := by omega
  cases q1 : eqP a b
  · skip
    have e : eqD a as_ au b bs bu = false := by simp [eqD, q1]
    rw [e]
    refine litOkM (fn := Try.f33) 17 24 0 rfl rfl rfl rfl rfl (by simp only [StableL, Stable, hp, pcS, dnB, DnI.at_, dnS, dnR, i64S, prS, insS, sndsS, sndS, evtsS, evtS, prO, i64O, inO, evO_, cB, sB, HB.stable]; simp [HB.born]) rfl fun w0 M E hro => ?_
    repeat' (first | with_reducible (first | apply J1 | apply J3 | apply J4 | apply J5 | apply J6 | apply J7 | apply J8 | apply J9 | apply J10 | apply J11 | apply J12 | apply J13 | apply J14 | apply J15 | apply J16 | apply J17 | apply J18 | apply J19 | apply J20 | refine J2 ?_) | ((with_reducible apply J21); (· rfl)) | ((with_reducible intro hif); first | (focus (cases hif; done)) | (simp only [JH] at hif; try (exfalso; omega)) | (try (exfalso; omega))) | ((first | ((with_reducible apply J22 cEq28_ok tab_ok); (· rfl)) | ((with_reducible apply J23 fol cEq28_ok tab_ok); (· rfl)) | with_reducible apply J24); (· (simp only [push_cast, ↓JP, Nat.reduceAdd, Nat.reduceEqDiff, Nat.reduceLT, Nat.reduceMul, Nat.reduceLeDiff, reduceCtorEq, reduceIte, ↓JK, JE, prc_eta, cEq28, sPSame, sSev, isEvt_evtS, ls_evtsS, ls_evtsS', ls_evtsS2, evtsS, inR, inN, q1]; rfl)); (try kernel_rfl); (try exact Vm.b114)) | fail)
    apply At.endsRet tab_ok (fn := Try.f33) (rs := [.tmp 4]) Anc.refl hro (Nat.le_of_ble_eq_true rfl) rfl
    · exact Vm.b15
    · exact Vm.b6
    · exact Vm.b7
    · rfl
    · exact Vm.b102
    · exact Vm.b9
    · exact fun β => rfl
    · exact Vm.b102
  · cases q2 : eqL as_ bs
    · skip
      have e : eqD a as_ au b bs bu = false := by simp [eqD, q1, q2]
      rw [e]
      refine litOkM (fn := Try.f33) 17 24 0 rfl rfl rfl rfl rfl (by simp only [StableL, Stable, hp, pcS, dnB, DnI.at_, dnS, dnR, i64S, prS, insS, sndsS, sndS, evtsS, evtS, prO, i64O, inO, evO_, cB, sB, HB.stable]; simp [HB.born]) rfl fun w0 M E hro => ?_
      repeat' (first | with_reducible (first | apply J1 | apply J3 | apply J4 | apply J5 | apply J6 | apply J7 | apply J8 | apply J9 | apply J10 | apply J11 | apply J12 | apply J13 | apply J14 | apply J15 | apply J16 | apply J17 | apply J18 | apply J19 | apply J20 | refine J2 ?_) | ((with_reducible apply J21); (· rfl)) | ((with_reducible intro hif); first | (focus (cases hif; done)) | (simp only [JH] at hif; try (exfalso; omega)) | (try (exfalso; omega))) | ((first | ((with_reducible apply J22 cEq28_ok tab_ok); (· rfl)) | ((with_reducible apply J23 fol cEq28_ok tab_ok); (· rfl)) | with_reducible apply J24); (· exact Vm.b115); (try kernel_rfl); (try exact Vm.b114)) | fail)
      apply At.endsRet tab_ok (fn := Try.f33) (rs := [.tmp 4]) Anc.refl hro (Nat.le_of_ble_eq_true rfl) rfl
      · exact Vm.b15
      · exact Vm.b6
      · exact Vm.b7
      · rfl
      · exact Vm.b102
      · exact Vm.b9
      · exact fun β => rfl
      · exact Vm.b102
    · skip
      have e : eqD a as_ au b bs bu = decide (au = bu) := by simp [eqD, q1, q2]
      rw [e]
      refine litOkM (fn := Try.f33) 17 24 0 rfl rfl rfl rfl rfl (by simp only [StableL, Stable, hp, pcS, dnB, DnI.at_, dnS, dnR, i64S, prS, insS, sndsS, sndS, evtsS, evtS, prO, i64O, inO, evO_, cB, sB, HB.stable]; simp [HB.born]) rfl fun w0 M E hro => ?_
      repeat' (first | with_reducible (first | apply J1 | apply J3 | apply J4 | apply J5 | apply J6 | apply J7 | apply J8 | apply J9 | apply J10 | apply J11 | apply J12 | apply J13 | apply J14 | apply J15 | apply J16 | apply J17 | apply J18 | apply J19 | apply J20 | refine J2 ?_) | ((with_reducible apply J21); (· rfl)) | ((with_reducible intro hif); first | (focus (cases hif; done)) | (simp only [JH] at hif; try (exfalso; omega)) | (try (exfalso; omega))) | ((first | ((with_reducible apply J22 cEq28_ok tab_ok); (· rfl)) | ((with_reducible apply J23 fol cEq28_ok tab_ok); (· rfl)) | with_reducible apply J24); (· exact Vm.b115); (try kernel_rfl); (try exact Vm.b114)) | fail)
      apply At.endsRet tab_ok (fn := Try.f33) (rs := [.tmp 4]) Anc.refl hro (Nat.le_of_ble_eq_true rfl) rfl
      · exact Vm.b15
      · exact Vm.b6
      · exact Vm.b7
      · rfl
      · exact Vm.b102
      · exact Vm.b9
      · exact fun β => rfl
      · exact Vm.b102
def sEq28 : Spec := fun args h m => match args with
  | [.agg [.agg [v1, v2, v3, v4, v5, v6], v7, v8], .agg [.agg [v9, v10, v11, v12, v13, v14], v15, v16]] => match srcV h 5 (.tup []) v2, srcV h 1 (.tup []) v3, srcV h 1 (.tup []) v6, srcV h 5 (.tup []) v7, srcV h 5 (.tup []) v10, srcV h 1 (.tup []) v11, srcV h 1 (.tup []) v14, srcV h 5 (.tup []) v15 with
    | some (c2, n2, f2, r2), some (c3, n3, f3, r3), some (c6, n6, f6, r6), some (c7, n7, f7, r7), some (c10, n10, f10, r10), some (c11, n11, f11, r11), some (c14, n14, f14, r14), some (c15, n15, f15, r15) => bif isI .i64 v1 && isI .i64 v4 && isI .i64 v5 && isI .i64 v8 && isI .i64 v9 && isI .i64 v12 && isI .i64 v13 && isI .i64 v16 then some (c2 ∧ c3 ∧ c6 ∧ c7 ∧ c10 ∧ c11 ∧ c14 ∧ c15 ∧ (∀ q, q < n2 → isIns (f2 q) = true) ∧ (∀ q, q < n3 → isI .i64 (f3 q) = true) ∧ (∀ q, q < n6 → isI .i64 (f6 q) = true) ∧ (∀ q, q < n7 → isEvt (f7 q) = true) ∧ (∀ q, q < n10 → isIns (f10 q) = true) ∧ (∀ q, q < n11 → isI .i64 (f11 q) = true) ∧ (∀ q, q < n14 → isI .i64 (f14 q) = true) ∧ (∀ q, q < n15 → isEvt (f15 q) = true) ∧ (n2 ≤ 1000000) ∧ (n3 ≤ 1000000) ∧ (n6 ≤ 1000000) ∧ (n7 ≤ 1000000), .bool (eqD ⟨(iOf v1), (ls insOf n2 f2), (ls iOf n3 f3), (iOf v4), (iOf v5), (ls iOf n6 f6)⟩ (ls evtOf n7 f7) (iOf v8) ⟨(iOf v9), (ls insOf n10 f10), (ls iOf n11 f11), (iOf v12), (iOf v13), (ls iOf n14 f14)⟩ (ls evtOf n15 f15) (iOf v16)), r2 ++ r3 ++ r6 ++ r7 ++ r10 ++ r11 ++ r14 ++ r15, []) else none
    | _, _, _, _, _, _, _, _ => none
  | _ => none
theorem sEq28_ok : CallOk Try.prog 33 sEq28 := by
  refine ⟨named_spec (by kernel_rfl), fun args h m c v rd wr hs hm hc w0 M β h' w R hrd hwr hst => ?_⟩
  unfold sEq28 at hs
  split at hs
  · rename_i v1 v2 v3 v4 v5 v6 v7 v8 v9 v10 v11 v12 v13 v14 v15 v16
    split at hs
    · rename_i c2 n2 f2 r2 c3 n3 f3 r3 c6 n6 f6 r6 c7 n7 f7 r7 c10 n10 f10 r10 c11 n11 f11 r11 c14 n14 f14 r14 c15 n15 f15 r15 a2 a3 a6 a7 a10 a11 a14 a15
      obtain ⟨hb, hs⟩ := bif_some hs
      simp only [Option.some.injEq, Prod.mk.injEq] at hs
      obtain ⟨rfl, rfl, rfl, rfl⟩ := hs
      simp only [Bool.and_eq_true] at hb
      obtain ⟨⟨⟨⟨⟨⟨⟨b1, b4⟩, b5⟩, b8⟩, b9⟩, b12⟩, b13⟩, b16⟩ := hb
      obtain ⟨k2, k3, k6, k7, k10, k11, k14, k15, g2, g3, g6, g7, g10, g11, g14, g15, y1, y2, y3, y4⟩ := hc
      obtain ⟨A2, p2, d2, e2, t2⟩ := reads_src R a2 k2 (fun i hi => hrd i (List.mem_append_left _ (List.mem_append_left _ (List.mem_append_left _ (List.mem_append_left _ (List.mem_append_left _ (List.mem_append_left _ (List.mem_append_left _ hi)))))))) (by omega)
      obtain ⟨A3, p3, d3, e3, t3⟩ := reads_src R a3 k3 (fun i hi => hrd i (List.mem_append_left _ (List.mem_append_left _ (List.mem_append_left _ (List.mem_append_left _ (List.mem_append_left _ (List.mem_append_left _ (List.mem_append_right _ hi)))))))) (by omega)
      obtain ⟨A6, p6, d6, e6, t6⟩ := reads_src R a6 k6 (fun i hi => hrd i (List.mem_append_left _ (List.mem_append_left _ (List.mem_append_left _ (List.mem_append_left _ (List.mem_append_left _ (List.mem_append_right _ hi))))))) (by omega)
      obtain ⟨A7, p7, d7, e7, t7⟩ := reads_src R a7 k7 (fun i hi => hrd i (List.mem_append_left _ (List.mem_append_left _ (List.mem_append_left _ (List.mem_append_left _ (List.mem_append_right _ hi)))))) (by omega)
      obtain ⟨A10, p10, d10, e10, t10⟩ := reads_src R a10 k10 (fun i hi => hrd i (List.mem_append_left _ (List.mem_append_left _ (List.mem_append_left _ (List.mem_append_right _ hi))))) (by omega)
      obtain ⟨A11, p11, d11, e11, t11⟩ := reads_src R a11 k11 (fun i hi => hrd i (List.mem_append_left _ (List.mem_append_left _ (List.mem_append_right _ hi)))) (by omega)
      obtain ⟨A14, p14, d14, e14, t14⟩ := reads_src R a14 k14 (fun i hi => hrd i (List.mem_append_left _ (List.mem_append_right _ hi))) (by omega)
      obtain ⟨A15, p15, d15, e15, t15⟩ := reads_src R a15 k15 (fun i hi => hrd i (List.mem_append_right _ hi)) (by omega)
      refine callRo (views := [⟨5, (ls insOf n2 f2).length, prS (ls insOf n2 f2), A2, p2⟩, ⟨1, (ls iOf n3 f3).length, i64S (ls iOf n3 f3), A3, p3⟩, ⟨1, (ls iOf n6 f6).length, i64S (ls iOf n6 f6), A6, p6⟩, ⟨5, (ls evtOf n7 f7).length, evtsS (ls evtOf n7 f7), A7, p7⟩, ⟨5, (ls insOf n10 f10).length, prS (ls insOf n10 f10), A10, p10⟩, ⟨1, (ls iOf n11 f11).length, i64S (ls iOf n11 f11), A11, p11⟩, ⟨1, (ls iOf n14 f14).length, i64S (ls iOf n14 f14), A14, p14⟩, ⟨5, (ls evtOf n15 f15).length, evtsS (ls evtOf n15 f15), A15, p15⟩]) (eq28_lit ⟨(iOf v1), (ls insOf n2 f2), (ls iOf n3 f3), (iOf v4), (iOf v5), (ls iOf n6 f6)⟩ ⟨(iOf v9), (ls insOf n10 f10), (ls iOf n11 f11), (iOf v12), (iOf v13), (ls iOf n14 f14)⟩ (ls evtOf n7 f7) (ls evtOf n15 f15) (iOf v8) (iOf v16) p2 p3 p6 p7 p10 p11 p14 p15 (by rw [ls_length]; exact y1) (by rw [ls_length]; exact y2) (by rw [ls_length]; exact y3) (by rw [ls_length]; exact y4)) ?_ R hm hwr ?_ ?_ ?_
      · intro x hx
        simp only [List.mem_cons, List.not_mem_nil, or_false] at hx
        rcases hx with rfl | rfl | rfl | rfl | rfl | rfl | rfl | rfl
        · exact viewIns t2 e2 g2
        · exact viewI64 t3 e3 g3
        · exact viewI64 t6 e6 g6
        · exact viewEvt t7 e7 g7
        · exact viewIns t10 e10 g10
        · exact viewI64 t11 e11 g11
        · exact viewI64 t14 e14 g14
        · exact viewEvt t15 e15 g15
      · intro β1 hv
        simp only [Vd, ls_length, and_true] at hv
        obtain ⟨z2, z3, z6, z7, z10, z11, z14, z15⟩ := hv
        simp only [denL, aggDen, intDen, natDen, boolDen, ls_length, z2, z3, z6, z7, z10, z11, z14, z15, d2, d3, d6, d7, d10, d11, d14, d15, isI_den b1, isI_den b4, isI_den b5, isI_den b8, isI_den b9, isI_den b12, isI_den b13, isI_den b16]
      · exact Vm.b102
      · exact Vm.b102
    · cases hs
  · cases hs
end Go.Proofs.Ytjliakjbdcplcaa.Vm
end

section
namespace Go.Proofs.Ytjliakjbdcplcaa.Vm
open Go.RowKit
set_option linter.unusedVariables false
set_option linter.unusedSimpArgs false
set_option maxRecDepth 100000
def sqK (k : Nat) : List Ins := ⟨3, 3, 0, 0, 4⟩ :: List.replicate k ⟨8, 3, 0, 0, 0⟩
def sqP (n : Nat) : List Ins := sqK n ++ [⟨1, 0, 0, 0, 0⟩]
def sqR (n : Nat) (q : Int) : Prc := ⟨16, sqP n, [0], 0, q, [2]⟩
theorem sqK_len (k : Nat) : (sqK k).length = k + 1 := by simp [sqK]
theorem sqP_len (k : Nat) : (sqP k).length = k + 2 := by simp [sqP, sqK_len]
theorem sqK_succ (k : Nat) : sqK (k + 1) = sqK k ++ [⟨8, 3, 0, 0, 0⟩] := by simp [sqK, List.replicate_succ']
theorem sqP_ok (n : Nat) : ∀ x ∈ sqP n, x.ok := by
  have h3 : Ins.ok ⟨3, 3, 0, 0, 4⟩ := by constructor <;> decide
  have h8 : Ins.ok ⟨8, 3, 0, 0, 0⟩ := by constructor <;> decide
  have h1 : Ins.ok ⟨1, 0, 0, 0, 0⟩ := by constructor <;> decide
  intro x hx
  rcases List.mem_append.1 hx with h | h
  · rcases List.mem_cons.1 h with rfl | h
    · exact h3
    · obtain ⟨_, rfl⟩ := List.mem_replicate.1 h; exact h8
  · obtain rfl := List.mem_singleton.1 h; exact h1
theorem sq_lt8 {n : Nat} (h : n < 8) : n = 0 ∨ n = 1 ∨ n = 2 ∨ n = 3 ∨ n = 4 ∨ n = 5 ∨ n = 6 ∨ n = 7 := by omega
theorem sq_chk {n : Nat} (h : n < 8) : (checkI (sqP n)).2 = 0 := by
  rcases sq_lt8 h with rfl | rfl | rfl | rfl | rfl | rfl | rfl | rfl <;> kernel_rfl
structure SqRun (r : RR) (n : Nat) (v : Int) : Prop where
  b : r.bad = 0
  s : r.s.sends = List.replicate n ⟨0, 4, v⟩
  c : r.s.cells = [0]
  d : r.s.draws = 0
  t : r.tr.length = n + 2
theorem sq_run1 {n : Nat} (h : n < 8) (q v : Int) : SqRun (hR ⟨0, 4, 20⟩ (sqR n q) ⟨1, 0, 0, 16, v⟩) n v := by
  rcases sq_lt8 h with rfl | rfl | rfl | rfl | rfl | rfl | rfl | rfl <;> exact ⟨by kernel_rfl, by kernel_rfl, by kernel_rfl, by kernel_rfl, by kernel_rfl⟩
theorem sq_run2 {n : Nat} (h : n < 8) (q : Int) : SqRun (hR ⟨0, 4, 20⟩ (sqR n q) ⟨2, 0, 0, 16, 0⟩) n 0 := by
  rcases sq_lt8 h with rfl | rfl | rfl | rfl | rfl | rfl | rfl | rfl <;> exact ⟨by kernel_rfl, by kernel_rfl, by kernel_rfl, by kernel_rfl, by kernel_rfl⟩
theorem sq_proc {n : Nat} (h : n < 8) {q : Int} (hq : 0 ≤ q ∧ q ≤ 4294967296) : procE ⟨0, 4, 20⟩ (sqR n q) = 0 := by
  have hp : (sqR n q).rightB = true := rightB_iff.2 ⟨sq_chk h, by show (1 : Int) ≤ 16 ∧ (16 : Int) ≤ 16; decide, by show 1 ≤ 1024; decide, Int.le_refl 0, by show (0 : Int) ≤ 1099511627776; decide, hq.1, hq.2, by show 1 ≤ 16; decide, rfl⟩
  unfold procE
  rw [if_neg (by decide), if_neg (by rw [hp]; exact Bool.noConfusion)]
theorem sq_gone (n : Nat) (v : Int) : goneB [2] (List.replicate n ⟨0, 4, v⟩) = false := by
  unfold goneB
  rw [List.any_eq_false]
  intro x hx
  obtain ⟨_, rfl⟩ := List.mem_replicate.1 hx
  show ¬ (decide ((2 : Int) = 0) = true)
  decide
theorem sq_hE {n : Nat} {q v : Int} {e : Evt} (h : SqRun (hR ⟨0, 4, 20⟩ (sqR n q) e) n v) : hE ⟨0, 4, 20⟩ (sqR n q) e = if 4294967296 < q + n then 284 else 0 := by
  unfold hE
  rw [if_neg (fun g => g h.b), h.s, List.length_replicate, if_neg (by rw [show (sqR n q).ports = [2] from rfl, sq_gone]; exact Bool.noConfusion)]
  rfl
theorem sq_hS {n : Nat} {q v : Int} {e : Evt} (D : Dn) (hD : D.p = sqR n q) (h : SqRun (hR ⟨0, 4, 20⟩ (sqR n q) e) n v) : hS ⟨0, 4, 20⟩ D e = ⟨sqR n (q + n), D.sent ++ sentL (sqR n q) e.time q (List.replicate n ⟨0, 4, v⟩), D.used + (n + 2)⟩ := by
  obtain ⟨p, l, u⟩ := D
  dsimp only at hD
  subst hD
  unfold hS
  dsimp only
  rw [h.s, h.c, h.d, h.t, List.length_replicate]
  rfl
def sqL (v : Int) : List Evt := [⟨1, 0, 0, 16, v⟩, ⟨2, 0, 0, 16, 0⟩]
theorem sq_bad (n : Nat) (q v : Int) : ∀ i, i < (sqL v).length → badAt (sqR n q) (sqL v) i = 0 := by
  intro i hi
  have : i = 0 ∨ i = 1 := by simp [sqL] at hi; omega
  rcases this with h | h
  · subst h; show badAt (sqR n q) (sqL v) 0 = 0; kernel_rfl
  · subst h; show badAt (sqR n q) (sqL v) 1 = 0; kernel_rfl
theorem sq_takes (n : Nat) (q v : Int) : takesB (sqR n q) ⟨1, 0, 0, 16, v⟩ = true := by kernel_rfl
theorem sq_A {n : Nat} (h : n < 8) {q : Int} (v : Int) (hq : 0 ≤ q ∧ q ≤ 4294967296) (hm : 4294967296 < q + n) :
    oneE ⟨0, 4, 20⟩ (sqR n q) ⟨1, 0, 0, 16, v⟩ = 284 ∧ hE ⟨0, 4, 20⟩ (foldD ⟨0, 4, 20⟩ ⟨sqR n q, [], 0⟩ ((sqL v).take 0)).p ((sqL v).getD 0 ⟨0, 0, 0, 0, 0⟩) = 284 := by
  have e : hE ⟨0, 4, 20⟩ (sqR n q) ⟨1, 0, 0, 16, v⟩ = 284 := by rw [sq_hE (sq_run1 h q v), if_pos hm]
  exact ⟨by rw [oneE_of (sq_proc h hq) (sq_takes n q v), e], e⟩
theorem sq_B {n : Nat} (h : n < 8) {q : Int} (v : Int) (hq : 0 ≤ q ∧ q ≤ 4294967296) (hm : q + n ≤ 4294967296) :
    oneE ⟨0, 4, 20⟩ (sqR n q) ⟨1, 0, 0, 16, v⟩ = 0 ∧ AllK ⟨0, 4, 20⟩ ⟨sqR n q, [], 0⟩ (sqL v) 1 ∧ hE ⟨0, 4, 20⟩ (foldD ⟨0, 4, 20⟩ ⟨sqR n q, [], 0⟩ ((sqL v).take 1)).p ((sqL v).getD 1 ⟨0, 0, 0, 0, 0⟩) = (if 4294967296 < q + n + n then 284 else 0) ∧ hS ⟨0, 4, 20⟩ ⟨sqR n q, [], 0⟩ ⟨1, 0, 0, 16, v⟩ = ⟨sqR n (q + n), sentL (sqR n q) 1 q (List.replicate n ⟨0, 4, v⟩), n + 2⟩ := by
  have e : hE ⟨0, 4, 20⟩ (sqR n q) ⟨1, 0, 0, 16, v⟩ = 0 := by rw [sq_hE (sq_run1 h q v), if_neg (by omega)]
  have hs : hS ⟨0, 4, 20⟩ ⟨sqR n q, [], 0⟩ ⟨1, 0, 0, 16, v⟩ = ⟨sqR n (q + n), sentL (sqR n q) 1 q (List.replicate n ⟨0, 4, v⟩), n + 2⟩ := by
    rw [sq_hS ⟨sqR n q, [], 0⟩ rfl (sq_run1 h q v)]; simp
  refine ⟨by rw [oneE_of (sq_proc h hq) (sq_takes n q v), e], fun i hi => ?_, ?_, hs⟩
  · obtain rfl : i = 0 := by omega
    exact e
  · have : foldD ⟨0, 4, 20⟩ ⟨sqR n q, [], 0⟩ ((sqL v).take 1) = hS ⟨0, 4, 20⟩ ⟨sqR n q, [], 0⟩ ⟨1, 0, 0, 16, v⟩ := rfl
    rw [this, hs]
    exact sq_hE (sq_run2 h (q + n))
theorem sq_C {n : Nat} (h : n < 8) {q : Int} (v : Int) (hq : 0 ≤ q ∧ q ≤ 4294967296) (hm : q + n + n ≤ 4294967296) : AllK ⟨0, 4, 20⟩ ⟨sqR n q, [], 0⟩ (sqL v) (sqL v).length := by
  obtain ⟨_, h1, h2, _⟩ := sq_B h v hq (by omega)
  rw [if_neg (by omega)] at h2
  intro i hi
  by_cases h0 : i < 1
  · exact h1 i h0
  · obtain rfl : i = 1 := by simp [sqL] at hi; omega
    exact h2
theorem sq_last {n : Nat} (h0 : 0 < n) (p : Prc) (t q v : Int) : (sentL p t q (List.replicate n ⟨0, 4, v⟩)).getD (n - 1) ⟨0, 0, 0, 0, 0⟩ = ⟨t + 4, p.id, q + ((n - 1 : Nat) : Int), p.ports.getD 0 0, v⟩ := by
  rw [sentL_getD p t _ q (n - 1) (by rw [List.length_replicate]; omega)]
  have : (List.replicate n (⟨0, 4, v⟩ : Snd)).getD (n - 1) ⟨0, 0, 0⟩ = ⟨0, 4, v⟩ := by
    rw [List.getD_eq_getElem?_getD, List.getElem?_replicate, if_pos (by omega)]; rfl
  rw [this]
  rfl
end Go.Proofs.Ytjliakjbdcplcaa.Vm
end

section
namespace Go.Proofs.Ytjliakjbdcplcaa.Vm
open Go.RowKit
set_option linter.unusedVariables false
set_option linter.unusedSimpArgs false
set_option maxRecDepth 100000
set_option maxHeartbeats 4000000
def sOneX : Spec := fun args h m => match args with
  | [.agg [_, _, .nat .i64 10], .agg [_, _, _, _, _, .sl 5 5 [] 1 0 1 none], .agg [.agg [.nat .i64 7, _, _], .nat .i64 3, _]] => sOneG args h m
  | _ => sOneB args h m
theorem sOneX_ok : CallOk Try.prog 28 sOneX := by
  refine ⟨named_spec (by kernel_rfl), fun args h m c v rd wr hs hm hc w0 M β h' w R hrd hwr hst => ?_⟩
  unfold sOneX at hs
  split at hs
  · exact sOneG_ok.2 _ h m c v rd wr hs hm hc w0 M β h' w R hrd hwr hst
  · exact sOneB_ok.2 _ h m c v rd wr hs hm hc w0 M β h' w R hrd hwr hst
theorem ls_one {α : Type} (g : SV → α) (f : Nat → SV) : ls g 1 f = [g (f 0)] := rfl
theorem ls_two {α : Type} (g : SV → α) (f : Nat → SV) : ls g 2 f = [g (f 0), g (f 1)] := rfl
theorem nat_zero_int : ((0 : Nat) : Int) = 0 := rfl
theorem nat_one_int : ((1 : Nat) : Int) = 1 := rfl
theorem insOf_agg (a b c d e : SV) : insOf (.agg [a, b, c, d, e]) = ⟨iOf a, iOf b, iOf c, iOf d, iOf e⟩ := rfl
theorem evtOf_agg (a b c d e : SV) : evtOf (.agg [.agg [a, b, c], d, e]) = ⟨iOf a, iOf b, iOf c, iOf d, iOf e⟩ := rfl
theorem isEvt_agg (a b c d e : SV) : isEvt (.agg [.agg [a, b, c], d, e]) = (isI .i64 a && isI .i64 b && isI .i64 c && isI .i64 d && isI .i64 e) := rfl
def cAw28 : FuncId → Option Spec := look2 [(34, sNewPG), (28, sOneX), (32, (sAllB 1)), (52, sEqEvt)]
theorem cAw28_ok : ∀ f S, cAw28 f = some S → CallOk Try.prog f S := allOk_spec ⟨sNewPG_ok, sOneX_ok, sAllB_ok 1, sEqEvt_ok, trivial⟩
theorem awake28_lit : LitOk Try.prog 26 [] [.gone] (.bool true) [.gone] := by
  have k1 : ∀ x ∈ ([⟨8, 1, 0, 0, 0⟩, ⟨1, 0, 0, 0, 0⟩] : List Ins), x.ok := by intro x hx; simp only [List.mem_cons, List.not_mem_nil, or_false] at hx; rcases hx with rfl | rfl <;> (refine ⟨?_, ?_, ?_, ?_, ?_, ?_, ?_, ?_, ?_, ?_⟩ <;> decide)
  have r1 : (newP 3 [⟨8, 1, 0, 0, 0⟩, ⟨1, 0, 0, 0, 0⟩] 0 [5]).rightB = true := by kernel_rfl
  have f1 : oneE ⟨0, 2, 10⟩ ⟨3, [⟨8, 1, 0, 0, 0⟩, ⟨1, 0, 0, 0, 0⟩], [], 0, 0, [5]⟩ ⟨7, 0, 4, 3, 9⟩ = 0 := by kernel_rfl
  have f2 : oneE ⟨0, 2, 10⟩ ⟨3, [⟨8, 1, 0, 0, 0⟩, ⟨1, 0, 0, 0, 0⟩], [], 0, 0, [5]⟩ ⟨1, 0, 1, 3, 0⟩ = 189 := by kernel_rfl
  have n2 : oneE ⟨0, 2, 10⟩ ⟨3, [⟨8, 1, 0, 0, 0⟩, ⟨1, 0, 0, 0, 0⟩], [], 0, 0, [5]⟩ ⟨1, 0, 1, 3, 0⟩ ≠ 0 := by rw [f2]; decide
  have f3 : oneE ⟨0, 2, 10⟩ ⟨3, [⟨8, 1, 0, 0, 0⟩, ⟨1, 0, 0, 0, 0⟩], [], 0, 0, [5]⟩ ⟨7, 0, 4, 4, 9⟩ = 282 := by kernel_rfl
  have n3 : oneE ⟨0, 2, 10⟩ ⟨3, [⟨8, 1, 0, 0, 0⟩, ⟨1, 0, 0, 0, 0⟩], [], 0, 0, [5]⟩ ⟨7, 0, 4, 4, 9⟩ ≠ 0 := by rw [f3]; decide
  have f4 : oneE ⟨0, 2, 1⟩ ⟨3, [⟨8, 1, 0, 0, 0⟩, ⟨1, 0, 0, 0, 0⟩], [], 0, 0, [5]⟩ ⟨7, 0, 4, 3, 9⟩ = 190 := by kernel_rfl
  have n4 : oneE ⟨0, 2, 1⟩ ⟨3, [⟨8, 1, 0, 0, 0⟩, ⟨1, 0, 0, 0, 0⟩], [], 0, 0, [5]⟩ ⟨7, 0, 4, 3, 9⟩ ≠ 0 := by rw [f4]; decide
  have f6 : oneE ⟨0, 2, 10⟩ ⟨3, [⟨8, 1, 0, 0, 0⟩, ⟨1, 0, 0, 0, 0⟩], [], 0, 0, [0]⟩ ⟨7, 0, 4, 3, 9⟩ = 285 := by kernel_rfl
  have n6 : oneE ⟨0, 2, 10⟩ ⟨3, [⟨8, 1, 0, 0, 0⟩, ⟨1, 0, 0, 0, 0⟩], [], 0, 0, [0]⟩ ⟨7, 0, 4, 3, 9⟩ ≠ 0 := by rw [f6]; decide
  have f5 : badAt ⟨3, [⟨8, 1, 0, 0, 0⟩, ⟨1, 0, 0, 0, 0⟩], [], 0, 0, [5]⟩ [⟨7, 0, 4, 3, 9⟩, ⟨7, 0, 4, 3, 9⟩] 1 = 283 := by kernel_rfl
  have n5 : badAt ⟨3, [⟨8, 1, 0, 0, 0⟩, ⟨1, 0, 0, 0, 0⟩], [], 0, 0, [5]⟩ [⟨7, 0, 4, 3, 9⟩, ⟨7, 0, 4, 3, 9⟩] 1 ≠ 0 := by rw [f5]; decide
  have g5 : ∀ q, q < 1 → badAt ⟨3, [⟨8, 1, 0, 0, 0⟩, ⟨1, 0, 0, 0, 0⟩], [], 0, 0, [5]⟩ [⟨7, 0, 4, 3, 9⟩, ⟨7, 0, 4, 3, 9⟩] q = 0 := by intro q hq; obtain rfl : q = 0 := (by omega); kernel_rfl
  have p5 : procE ⟨0, 2, 10⟩ ⟨3, [⟨8, 1, 0, 0, 0⟩, ⟨1, 0, 0, 0, 0⟩], [], 0, 0, [5]⟩ = 0 := by kernel_rfl
  have h1 : (hS ⟨0, 2, 10⟩ ⟨⟨3, [⟨8, 1, 0, 0, 0⟩, ⟨1, 0, 0, 0, 0⟩], [], 0, 0, [5]⟩, [], 0⟩ ⟨7, 0, 4, 3, 9⟩).sent = [⟨14, 3, 0, 5, 9⟩] := by kernel_rfl
  have h2 : (hS ⟨0, 2, 10⟩ ⟨⟨3, [⟨8, 1, 0, 0, 0⟩, ⟨1, 0, 0, 0, 0⟩], [], 0, 0, [5]⟩, [], 0⟩ ⟨7, 0, 4, 3, 9⟩).used = 2 := by kernel_rfl
  have h3 : (hS ⟨0, 2, 10⟩ ⟨⟨3, [⟨8, 1, 0, 0, 0⟩, ⟨1, 0, 0, 0, 0⟩], [], 0, 0, [5]⟩, [], 0⟩ ⟨7, 0, 4, 3, 9⟩).p.seq = 1 := by kernel_rfl
  have z1 : eqL ([⟨14, 3, 0, 5, 9⟩] : List Evt) [⟨14, 3, 0, 5, 9⟩] = true := by exact eqL_true rfl
  refine litOkM (fn := Try.f26) 1 126 0 rfl rfl rfl rfl rfl trivial rfl fun w0 M E hro => ?_
  repeat' (first | with_reducible (first | apply J1 | apply J3 | apply J4 | apply J5 | apply J6 | apply J7 | apply J8 | apply J9 | apply J10 | apply J11 | apply J12 | apply J13 | apply J14 | apply J15 | apply J16 | apply J17 | apply J18 | apply J19 | apply J20 | refine J2 ?_) | ((with_reducible apply J21); (· rfl)) | ((with_reducible intro hif); first | (focus (cases hif; done)) | (simp only [JH] at hif; try (exfalso; omega)) | (try (exfalso; omega))) | ((first | ((with_reducible apply J22 cAw28_ok tab_ok); (· rfl)) | ((with_reducible apply J23 fol cAw28_ok tab_ok); (· rfl)) | with_reducible apply J24); (· (simp only [push_cast, ↓JP, Nat.reduceAdd, Nat.reduceEqDiff, Nat.reduceLT, Nat.reduceMul, Nat.reduceLeDiff, reduceCtorEq, reduceIte, ↓JK, JE, JB, prc_eta, rul_eta, dnn_eta, cAw28, sNewPG, sOneX, sOneG, sOneB, sAllB, sEqEvt, pcS, prO, i64O, inO, evO_, dnS, dnR, dn0, newP, ls_one, ls_two, ls_zero, insOf_agg, evtOf_agg, isEvt_agg, nat_zero_int, nat_one_int, ls_evtsS, ls_evtsS', ls_evtsS2, evtsS, isEvt_evtS, evtOf_evtS, inR, inN, f1, f2, f3, f4, f6, f5, h1, h2, h3, z1]; rfl)); (try kernel_rfl); (try (focus (first | exact True.intro | ((try simp only [JS, implies_true, forall_const, shaped, shapedL, kndOf, iOf, newP, ls_one, ls_two, ls_zero, insOf_agg, evtOf_agg, isEvt_agg, nat_zero_int, nat_one_int, Nat.zero_add, List.getD_cons_zero, List.getD_cons_succ, Int.cast_ofNat_Int, List.replicate_zero, List.length_cons, List.length_nil]); (repeat' (first | exact True.intro | assumption | apply And.intro | decide | (intro q hq; first | rfl | exact hq.elim | exact k1 q hq | exact g5 q hq | ((rcases q with _ | _ | _ | q) <;> first | rfl | (exfalso; revert hq; simp; done))))); done) | ((try simp only [JS, implies_true, forall_const, shaped, shapedL, kndOf, inR, inN]); (repeat' (first | assumption | exact True.intro | omega | apply And.intro)); done))))) | fail)
  apply At.endsRet tab_ok (fn := Try.f26) (rs := [.tmp 0]) Anc.refl hro (Nat.le_of_ble_eq_true rfl) rfl
  · simp only [push_cast, ↓JP, Nat.reduceAdd, Nat.reduceEqDiff, Nat.reduceLT, Nat.reduceMul, Nat.reduceLeDiff, reduceCtorEq, reduceIte, ↓JK, resV, resV1, newP, ls_one, ls_two, ls_zero, insOf_agg, evtOf_agg, isEvt_agg, nat_zero_int, nat_one_int]; rfl
  · exact Vm.b6
  · exact Vm.b7
  · rfl
  · exact Vm.b102
  · exact Vm.b9
  · first | exact fun β => rfl | (intro β; kernel_rfl)
  · exact Vm.b102
def sAw28 : Spec := fun args h m => match args with
  | [] => some (True, .bool true, [], [])
  | _ => none
theorem sAw28_ok : CallOk Try.prog 26 sAw28 := by
  refine ⟨named_spec (by kernel_rfl), fun args h m c v rd wr hs hm hc w0 M β h' w R hrd hwr hst => ?_⟩
  unfold sAw28 at hs
  split at hs
  · skip
    simp only [Option.some.injEq, Prod.mk.injEq] at hs
    obtain ⟨rfl, rfl, rfl, rfl⟩ := hs
    refine callRo (views := []) (awake28_lit) ?_ R hm hwr ?_ ?_ ?_
    · intro x hx; cases hx
    · intro β1 hv
      simp only [denL, aggDen, intDen, natDen, boolDen, ls_length]
    · exact Vm.b102
    · exact Vm.b102
  · cases hs
end Go.Proofs.Ytjliakjbdcplcaa.Vm
end

section
namespace Go.Proofs.Ytjliakjbdcplcaa.Vm
open Go.RowKit
set_option linter.unusedVariables false
set_option linter.unusedSimpArgs false
set_option maxRecDepth 100000
set_option maxHeartbeats 4000000
theorem eqD_zero : eqD ⟨0, [], [], 0, 0, []⟩ [] 0 ⟨0, [], [], 0, 0, []⟩ [] 0 = true := by decide
theorem less_catP {t : Nat} {σ : Nat → Nat} {b : Bool} (S : List Ins) (x : Ins) {n : Nat} {U : List Ins} (hn : S.length = n) (hU : S ++ [x] = U) {m : Nat} (hm : m = U.length) {g : Nat → SV} {xv z : SV} (hg : g = fun q => SV.ite (decide (q < n)) (insS (S.getD q ⟨0, 0, 0, 0, 0⟩)) ([xv].getD (q - n) z)) (hx : ∀ β, xv.cl β = x.cells) :
    Less (.own t (.arr m 5 g) b) ((HB.own t (.arr m 5 (prS U)) b).ren σ) := by
  subst hm
  have e : (HB.own t (.arr U.length 5 (prS U)) b).ren σ = .own t (.arr U.length 5 (prS U)) b := by
    simp only [HB.ren, SV.ren]; rw [prS_ren]
  rw [e]
  refine .val (fun β => arrCl fun q hq => ?_) (fun n1 k1 f1 e => by injection e with e1 e2 e3; subst e1 e2; exact ⟨_, rfl⟩) (fun n1 k1 f1 e => by injection e with e1 e2 e3; subst e1 e2; exact ⟨_, rfl⟩)
  subst hg hU hn
  dsimp only
  rw [ite_eq]
  unfold prS
  by_cases h : q < S.length
  · simp only [h, decide_true, cond_true]
    rw [getD_app_lt h]
  · have hq' : q = S.length := by rw [List.length_append] at hq; simp at hq; omega
    subst hq'
    simp only [h, decide_false, cond_false, Nat.sub_self, List.getD_cons_zero, hx]
    rw [List.getD_eq_getElem?_getD, List.getElem?_append_right (Nat.le_refl _), Nat.sub_self, isIns_cl (isIns_insS _), insOf_insS]; rfl
theorem less_oneP {t : Nat} {σ : Nat → Nat} {b : Bool} (x : Ins) {g : Nat → SV} {xv z : SV} (hg : g = fun q => [xv].getD q z) (hx : ∀ β, xv.cl β = x.cells) :
    Less (.own t (.arr 1 5 g) b) ((HB.own t (.arr (0 + 1) 5 (prS [x])) b).ren σ) := by
  have e : (HB.own t (.arr 1 5 (prS [x])) b).ren σ = .own t (.arr 1 5 (prS [x])) b := by
    simp only [HB.ren, SV.ren]; rw [prS_ren]
  show Less _ ((HB.own t (.arr 1 5 (prS [x])) b).ren σ)
  rw [e]
  refine .val (fun β => arrCl fun q hq => ?_) (fun n1 k1 f1 e => by injection e with e1 e2 e3; subst e1 e2; exact ⟨_, rfl⟩) (fun n1 k1 f1 e => by injection e with e1 e2 e3; subst e1 e2; exact ⟨_, rfl⟩)
  subst hg
  obtain rfl : q = 0 := by omega
  show xv.cl β = _
  rw [hx, show prS [x] 0 = insS x from rfl, isIns_cl (isIns_insS _), insOf_insS]
theorem ls_eqI {n : Nat} {f : Nat → SV} {l : List Ins} (hl : l.length = n) (h : ∀ q, q < n → insOf (f q) = l.getD q ⟨0, 0, 0, 0, 0⟩) : ls insOf n f = l := by
  subst hl
  have : ls insOf l.length f = ls insOf l.length (prS l) := by
    unfold ls
    exact List.map_congr_left fun q hq => by rw [h q (List.mem_range.1 hq)]; exact (insOf_insS _).symm
  rw [this, ls_prS]
def cSqA : FuncId → Option Spec := look2 [(26, sAw28), (34, sNewPG), (32, (sAllF 0)), (28, sOneB), (33, sEq28)]
theorem cSqA_ok : ∀ f S, cSqA f = some S → CallOk Try.prog f S := allOk_spec ⟨sAw28_ok, sNewPG_ok, sAllF_ok 0, sOneB_ok, sEq28_ok, trivial⟩
def cSqB : FuncId → Option Spec := look2 [(26, sAw28), (34, sNewPG), (32, (sAllF 1)), (28, sOneG), (33, sEq28)]
theorem cSqB_ok : ∀ f S, cSqB f = some S → CallOk Try.prog f S := allOk_spec ⟨sAw28_ok, sNewPG_ok, sAllF_ok 1, sOneG_ok, sEq28_ok, trivial⟩
def cSqC : FuncId → Option Spec := look2 [(26, sAw28), (34, sNewPG), (32, sAllG), (28, sOneG), (33, sEq28)]
theorem cSqC_ok : ∀ f S, cSqC f = some S → CallOk Try.prog f S := allOk_spec ⟨sAw28_ok, sNewPG_ok, sAllG_ok, sOneG_ok, sEq28_ok, trivial⟩
theorem seqs_lit (sends left value : Int) (hs : 0 ≤ sends ∧ sends ≤ 255) (hl : 0 ≤ left ∧ left ≤ 255) : LitOk Try.prog 9 [.int .u8 sends, .int .u8 left, .int .i64 value] [.gone] (.bool true) [.gone] := by
  have w0 := Int.tmod_nonneg 8 hs.1
  have w1 := Int.tmod_lt_of_pos sends (show (0 : Int) < 8 by decide)
  have w2 := Int.tmod_nonneg 10 hl.1
  have w3 := Int.tmod_lt_of_pos left (show (0 : Int) < 10 by decide)
  obtain ⟨n, hN⟩ : ∃ n : Nat, sends.tmod 8 = (n : Int) := ⟨(sends.tmod 8).toNat, by omega⟩
  obtain ⟨m, hM⟩ : ∃ m : Nat, left.tmod 10 = (m : Int) := ⟨(left.tmod 10).toNat, by omega⟩
  have hn8 : n < 8 := by omega
  have hm10 : m < 10 := by omega
  clear w0 w1 w2 w3

  refine litOkM (fn := Try.f9) 1 160 0 rfl rfl rfl rfl rfl (by simp only [StableL, Stable, hp, pcR, dnB, DnI.at_, dnS, dnR, pcS, i64S, prS, insS, sndsS, sndS, evtsS, evtS, prO, i64O, inO, evO_, cB, sB, HB.stable]; simp [HB.born]) rfl fun w0 M E hro => ?_
  repeat' (first | with_reducible (first | apply J1 | apply J3 | apply J4 | apply J5 | apply J6 | apply J7 | apply J8 | apply J9 | apply J10 | apply J11 | apply J12 | apply J13 | apply J14 | apply J15 | apply J16 | apply J17 | apply J18 | apply J19 | apply J20 | refine J2 ?_) | ((with_reducible apply J21); (· rfl)) | ((with_reducible intro hif); first | (focus (cases hif; done)) | (simp only [JH] at hif; try (exfalso; omega)) | (try (exfalso; omega))) | ((first | ((with_reducible apply J22 cSqA_ok tab_ok); (· rfl)) | ((with_reducible apply J23 fol cSqA_ok tab_ok); (· rfl)) | with_reducible apply J24); (· (simp only [push_cast, ↓JP, Nat.reduceAdd, Nat.reduceEqDiff, Nat.reduceLT, Nat.reduceMul, Nat.reduceLeDiff, reduceCtorEq, reduceIte, ↓JK, JM, JE, JB, prc_eta, rul_eta, dnn_eta, dnB, dnS, DnI.at_, DnI.v, dnR, dn0, evO_, pcS, prO, i64O, inO, cB_eq, cSqA, sAw28, sNewPG, sOneB, sOneG, sAllG, sAllF, sEq28, isI_int, iOf, evtsS, ↓evtS_sz, ↓evtS_ag, ↓evtS_pl, nav_evt, nav_evt0, nav_evt1, nav_evt2, evm_ev, isEvt_evtS, evtOf_evtS, inR, inN, Nat.sub_zero, evtOf_agg, isEvt_agg, nat_zero_int, ls_zero, ls_one, ls_evtsS, ls_evtsS', ls_evtsS2, hN, hM]; rfl)); (try kernel_rfl); (try exact Vm.b116)) | fail)
  refine At.pick (L2 := [.gone, .own 73 (.arr (0 + 1) 5 (prS (sqK 0))) false]) (φ2 := [(0, .int .u8 sends), (1, .int .u8 left), (2, .int .i64 value), (7, .int .i64 (n : Int)), (8, .int .i64 (m : Int)), (9, .sl 1 1 [] 5 0 (0 + 1) none), (32, .int .i64 (n : Int)), (33, .nat .i64 0)]) [0, 2] rfl rfl rfl ?_ rfl ?_ ?_ ?_ rfl ?_
  · (repeat' (first | exact trivial | exact .inl rfl | exact .inr (.same _) | exact .inr .loose | exact .inr (.arr (by assumption)) | apply And.intro | (exact .inr (less_oneP ⟨3, 3, 0, 0, 4⟩ rfl (fun β => rfl)))))
  · exact Vm.b113
  · exact Vm.b62
  · exact Vm.b113
  refine WF.loopAt (fun (j : Nat) => j ≤ n) (fun (j : Nat) => [(0, .int .u8 sends), (1, .int .u8 left), (2, .int .i64 value), (7, .int .i64 (n : Int)), (8, .int .i64 (m : Int)), (9, .sl 1 1 [] 5 0 (j + 1) none), (32, .int .i64 (n : Int)), (33, .nat .i64 j)]) (fun (j : Nat) => [.gone, .own 73 (.arr (j + 1) 5 (prS (sqK j))) false]) (fun (j : Nat) => n - j) 0 (Nat.zero_le _) ?_ ?_ rfl ?_ ?_ rfl ?_
  · exact Vm.b10
  · exact Vm.b7
  · exact Vm.b113
  · exact Vm.b113
  intro j hj
  have hJl := sqK_len j
  by_cases hjl : j < n
  · have hji : (j : Int) < (n : Int) := by omega
    repeat' (first | with_reducible (first | apply J1 | apply J3 | apply J4 | apply J5 | apply J6 | apply J7 | apply J8 | apply J9 | apply J10 | apply J11 | apply J12 | apply J13 | apply J14 | apply J15 | apply J16 | apply J17 | apply J18 | apply J19 | apply J20 | refine J2 ?_) | ((with_reducible apply J21); (· rfl)) | ((with_reducible intro hif); first | (focus (cases hif; done)) | (simp only [JH] at hif; try (exfalso; omega)) | (try (exfalso; omega))) | ((first | ((with_reducible apply J22 cSqA_ok tab_ok); (· rfl)) | ((with_reducible apply J23 fol cSqA_ok tab_ok); (· rfl)) | with_reducible apply J24); (· (simp only [push_cast, ↓JP, Nat.reduceAdd, Nat.reduceEqDiff, Nat.reduceLT, Nat.reduceMul, Nat.reduceLeDiff, reduceCtorEq, reduceIte, ↓JK, JM, JE, JB, prc_eta, rul_eta, dnn_eta, dnB, dnS, DnI.at_, DnI.v, dnR, dn0, evO_, pcS, prO, i64O, inO, cB_eq, cSqA, sAw28, sNewPG, sOneB, sOneG, sAllG, sAllF, sEq28, isI_int, iOf, evtsS, ↓evtS_sz, ↓evtS_ag, ↓evtS_pl, nav_evt, nav_evt0, nav_evt1, nav_evt2, evm_ev, isEvt_evtS, evtOf_evtS, inR, inN, Nat.sub_zero, evtOf_agg, isEvt_agg, nat_zero_int, ls_zero, ls_one, ls_evtsS, ls_evtsS', ls_evtsS2, hN, hM, hjl, hji]; rfl)); (try kernel_rfl); (try exact Vm.b116)) | fail)
    refine At.nextPick [0, 3] (j + 1) ?_ rfl rfl rfl ?_ rfl ?_ ?_ ?_ rfl
    · omega
    · (repeat' (first | exact trivial | exact .inl rfl | exact .inr (.same _) | exact .inr .loose | exact .inr (.arr (by assumption)) | apply And.intro | (exact .inr (less_catP (sqK j) ⟨8, 3, 0, 0, 0⟩ (sqK_len j) (sqK_succ j).symm (sqK_len (j + 1)).symm rfl (fun β => rfl)))))
    · exact Vm.b113
    · exact Vm.b62
    · exact Vm.b113
  · obtain rfl : n = j := by omega
    have hjn : ¬ (n : Int) < (n : Int) := by omega
    obtain ⟨Q, hQ⟩ : ∃ x : Int, 4294967296 - (m : Int) = x := ⟨_, rfl⟩
    have hQ0 : 0 ≤ Q ∧ Q ≤ 4294967296 := by omega
    have hNr0 : (newP 16 (sqP n) 1 [2]).rightB = true := (procE_zero (sq_proc hn8 (q := 0) (by omega))).2
    have hPr := sq_proc hn8 hQ0
    have hok := sqP_ok n
    have hPl0 := sqP_len n
    have hBd := sq_bad n Q value
    have hLl : (sqL value).length = 2 := rfl
    have hD := eqD_zero
    have hcm : ((n : Int) - 1).toNat = n - 1 := by omega
    obtain ⟨PP, hPP⟩ : ∃ x, sqP n = x := ⟨_, rfl⟩
    obtain ⟨C0, hC0⟩ : ∃ x : List Int, [0] = x := ⟨_, rfl⟩
    obtain ⟨Q0, hQ2⟩ : ∃ x : List Int, [2] = x := ⟨_, rfl⟩
    have hSR : ∀ q, sqR n q = ⟨16, PP, C0, 0, q, Q0⟩ := fun q => by rw [← hPP, ← hC0, ← hQ2]; rfl
    have hN0 : newP 16 PP 1 Q0 = ⟨16, PP, C0, 0, 0, Q0⟩ := by rw [← hC0]; rfl
    have hNr : (⟨16, PP, C0, 0, 0, Q0⟩ : Prc).rightB = true := by rw [← hN0, ← hPP, ← hQ2]; exact hNr0
    have hPl : PP.length ≤ 1000000 := by rw [← hPP, hPl0]; omega
    have hCl : C0.length ≤ 1000000 := by rw [← hC0]; decide
    have hQl : Q0.length ≤ 1000000 := by rw [← hQ2]; decide
    have hPl2 : PP.length = n + 1 + 1 := by rw [← hPP, hPl0]
    have hT : ls insOf (n + 1 + 1) (fun q => SV.ite (decide (q < n + 1)) (insS ((sqK n).getD q ⟨0, 0, 0, 0, 0⟩)) ([SV.agg [.nat .u8 1, .nat .u8 0, .nat .u8 0, .nat .u8 0, .nat .i64 0]].getD (q - (n + 1)) (.agg [.nat .u8 0, .nat .u8 0, .nat .u8 0, .nat .u8 0, .nat .i64 0]))) = PP := by
      rw [← hPP]
      refine ls_eqI (hPl0.trans rfl) fun q hq => ?_
      rw [ite_eq]
      by_cases h : q < n + 1
      · simp only [h, decide_true, cond_true]
        unfold sqP
        rw [getD_app_lt (by rw [sqK_len]; exact h)]; rfl
      · obtain rfl : q = n + 1 := by omega
        simp only [h, decide_false, cond_false, Nat.sub_self, List.getD_cons_zero]
        unfold sqP
        rw [List.getD_eq_getElem?_getD, List.getElem?_append_right (by rw [sqK_len]; exact Nat.le_refl _), sqK_len, Nat.sub_self]; rfl
    have hT2 : ls insOf (n + 1 + 1) (fun q => SV.ite (decide (q < n + 1)) (prS (sqK n) q) ([SV.agg [.nat .u8 1, .nat .u8 0, .nat .u8 0, .nat .u8 0, .nat .i64 0]].getD (q - (n + 1)) (.agg [.nat .u8 0, .nat .u8 0, .nat .u8 0, .nat .u8 0, .nat .i64 0]))) = PP := hT
    have hI : ∀ q, q < n + 1 + 1 → isIns (SV.ite (decide (q < n + 1)) (prS (sqK n) q) ([SV.agg [.nat .u8 1, .nat .u8 0, .nat .u8 0, .nat .u8 0, .nat .i64 0]].getD (q - (n + 1)) (.agg [.nat .u8 0, .nat .u8 0, .nat .u8 0, .nat .u8 0, .nat .i64 0]))) = true := fun q hq => by
      rw [ite_eq]
      by_cases h : q < n + 1
      · simp only [h, decide_true, cond_true]; rfl
      · obtain rfl : q = n + 1 := by omega
        simp only [h, decide_false, cond_false, Nat.sub_self, List.getD_cons_zero]; rfl
    have hEv : ls evtOf 2 (fun q => [SV.agg [.agg [.nat .i64 1, .nat .i64 0, .nat .i64 0], .nat .i64 16, .int .i64 value], .agg [.agg [.nat .i64 2, .nat .i64 0, .nat .i64 0], .nat .i64 16, .nat .i64 0]].getD q (.agg [.agg [.nat .i64 0, .nat .i64 0, .nat .i64 0], .nat .i64 0, .nat .i64 0])) = sqL value := rfl
    rw [hPP] at hok
    rw [hSR] at hPr hBd
    by_cases hA : m < n
    · obtain ⟨f1, f2⟩ := sq_A hn8 value hQ0 (by omega)
      have f1n : oneE ⟨0, 4, 20⟩ (sqR n Q) ⟨1, 0, 0, 16, value⟩ ≠ 0 := by rw [f1]; decide
      have f2n : hE ⟨0, 4, 20⟩ (foldD ⟨0, 4, 20⟩ ⟨sqR n Q, [], 0⟩ ((sqL value).take 0)).p ((sqL value).getD 0 ⟨0, 0, 0, 0, 0⟩) ≠ 0 := by rw [f2]; decide
      have f3 : AllK ⟨0, 4, 20⟩ ⟨sqR n Q, [], 0⟩ (sqL value) 0 := fun i hi => absurd hi (Nat.not_lt_zero i)
      have hAi : (m : Int) < (n : Int) := by omega
      rw [hSR] at f1 f2 f1n f2n f3
      have f2e : hE ⟨0, 4, 20⟩ (foldD ⟨0, 4, 20⟩ ⟨⟨16, PP, C0, 0, Q, Q0⟩, [], 0⟩ []).p ((sqL value).getD 0 ⟨0, 0, 0, 0, 0⟩) = 284 := f2

      repeat' (first | with_reducible (first | apply J1 | apply J3 | apply J4 | apply J5 | apply J6 | apply J7 | apply J8 | apply J9 | apply J10 | apply J11 | apply J12 | apply J13 | apply J14 | apply J15 | apply J16 | apply J17 | apply J18 | apply J19 | apply J20 | refine J2 ?_) | ((with_reducible apply J21); (· rfl)) | ((with_reducible intro hif); first | (focus (cases hif; done)) | (simp only [JH] at hif; try (exfalso; omega)) | (try (exfalso; omega))) | ((first | ((with_reducible apply J22 cSqA_ok tab_ok); (· rfl)) | ((with_reducible apply J23 fol cSqA_ok tab_ok); (· rfl)) | with_reducible apply J24); (· (simp only [push_cast, ↓JP, Nat.reduceAdd, Nat.reduceEqDiff, Nat.reduceLT, Nat.reduceMul, Nat.reduceLeDiff, reduceCtorEq, reduceIte, ↓JK, JM, JE, JB, prc_eta, rul_eta, dnn_eta, dnB, dnS, DnI.at_, DnI.v, dnR, dn0, evO_, pcS, prO, i64O, inO, cB_eq, cSqA, sAw28, sNewPG, sOneB, sOneG, sAllG, sAllF, sEq28, isI_int, iOf, evtsS, ↓evtS_sz, ↓evtS_ag, ↓evtS_pl, nav_evt, nav_evt0, nav_evt1, nav_evt2, evm_ev, isEvt_evtS, evtOf_evtS, inR, inN, Nat.sub_zero, evtOf_agg, isEvt_agg, nat_zero_int, ls_zero, ls_one, ls_evtsS, ls_evtsS', ls_evtsS2, hN, hM, hjn, hQ, hQ2, hN0, hT, hT2, hEv, hD, f1, f2e, hAi, hLl]; rfl)); (try kernel_rfl); (try (focus (first | exact True.intro | ((try simp only [JS, Nat.zero_add, implies_true, forall_const, shaped, shapedL, kndOf, ls_i64S', ls_i64S, ls_prS, ls_prS', ls_evtsS', ls_evtsS, ls_evtsS2, ls_length, ls_one, evtOf_evtS, prc_eta, rul_eta, dnn_eta, iOf, List.getD_cons_zero, Int.cast_ofNat_Int, capB, hjn, hQ, hQ2, hN0, hT, hT2, hEv, hD, f1, f2e, hAi, hLl]); (repeat' (first | exact True.intro | assumption | omega | apply And.intro | rfl | decide | (intro q hq; first | rfl | assumption | exact hq.elim | ((rcases q with _ | _ | q) <;> first | rfl | (exfalso; revert hq; simp; done))) | intro _)); done) | ((try simp only [JS, implies_true, forall_const, shaped, shapedL, kndOf, inR, inN]); (repeat' (first | assumption | exact True.intro | omega | apply And.intro)); done))))) | fail)
      apply At.endsRet tab_ok (fn := Try.f9) (rs := [.tmp 6]) Anc.refl hro (Nat.le_of_ble_eq_true rfl) rfl
      · exact Vm.b15
      · exact Vm.b6
      · exact Vm.b7
      · rfl
      · exact Vm.b113
      · exact Vm.b9
      · exact fun β => rfl
      · exact Vm.b113
    · obtain ⟨g1, g2, g3, g4⟩ := sq_B hn8 value hQ0 (by omega)
      have hAi : ¬ (m : Int) < (n : Int) := by omega
      obtain ⟨DD, hDD⟩ : ∃ x, hS ⟨0, 4, 20⟩ ⟨sqR n Q, [], 0⟩ ⟨1, 0, 0, 16, value⟩ = x := ⟨_, rfl⟩
      have hs1 : DD.sent.length = n := by rw [← hDD, g4]; show (sentL _ _ _ _).length = n; rw [sentL_len, List.length_replicate]
      have hs2 : DD.p.seq = Q + (n : Int) := by rw [← hDD, g4]; rfl
      have hs3 : 0 < n → (DD.sent.getD (n - 1) ⟨0, 0, 0, 0, 0⟩).seq = Q + ((n - 1 : Nat) : Int) := fun h0 => by rw [← hDD, g4]; show ((sentL _ _ _ _).getD _ _).seq = _; rw [sq_last h0]
      have hs4 : 0 < n → (DD.sent.getD (n - 1) ⟨0, 0, 0, 0, 0⟩).value = value := fun h0 => by rw [← hDD, g4]; show ((sentL _ _ _ _).getD _ _).value = _; rw [sq_last h0]
      have hs5 : 0 < n → Q + ((n - 1 : Nat) : Int) ≤ 4294967295 := fun h0 => by omega
      clear g4
      by_cases hB : m < 2 * n
      · have hBi : (m : Int) < 2 * (n : Int) := by omega
        rw [if_pos (by omega)] at g3
        have g3n : hE ⟨0, 4, 20⟩ (foldD ⟨0, 4, 20⟩ ⟨sqR n Q, [], 0⟩ ((sqL value).take 1)).p ((sqL value).getD 1 ⟨0, 0, 0, 0, 0⟩) ≠ 0 := by rw [g3]; decide
        have h0 : 0 < n := by omega
        have h0i : ¬ (n : Int) = 0 := by omega
        have hs3 := hs3 h0
        have hs4 := hs4 h0
        have hs5 := hs5 h0
        rw [hSR] at g1 g2 g3 g3n hDD

        repeat' (first | with_reducible (first | apply J1 | apply J3 | apply J4 | apply J5 | apply J6 | apply J7 | apply J8 | apply J9 | apply J10 | apply J11 | apply J12 | apply J13 | apply J14 | apply J15 | apply J16 | apply J17 | apply J18 | apply J19 | apply J20 | refine J2 ?_) | ((with_reducible apply J21); (· rfl)) | ((with_reducible intro hif); first | (focus (cases hif; done)) | (simp only [JH] at hif; try (exfalso; omega)) | (try (exfalso; omega))) | ((first | ((with_reducible apply J22 cSqB_ok tab_ok); (· rfl)) | ((with_reducible apply J23 fol cSqB_ok tab_ok); (· rfl)) | with_reducible apply J24); (· (simp only [push_cast, ↓JP, Nat.reduceAdd, Nat.reduceEqDiff, Nat.reduceLT, Nat.reduceMul, Nat.reduceLeDiff, reduceCtorEq, reduceIte, ↓JK, JM, JE, JB, prc_eta, rul_eta, dnn_eta, dnB, dnS, DnI.at_, DnI.v, dnR, dn0, evO_, pcS, prO, i64O, inO, cB_eq, cSqB, sAw28, sNewPG, sOneB, sOneG, sAllG, sAllF, sEq28, isI_int, iOf, evtsS, ↓evtS_sz, ↓evtS_ag, ↓evtS_pl, nav_evt, nav_evt0, nav_evt1, nav_evt2, evm_ev, isEvt_evtS, evtOf_evtS, inR, inN, Nat.sub_zero, evtOf_agg, isEvt_agg, nat_zero_int, ls_zero, ls_one, ls_evtsS, ls_evtsS', ls_evtsS2, hN, hM, hjn, hQ, hQ2, hN0, hT, hT2, hEv, hAi, hLl, hDD, g1, hs1, hs2, hcm, g3, hBi, h0i, hs3, hs4, hs5]; rfl)); (try kernel_rfl); (try (focus (first | exact True.intro | ((try simp only [JS, Nat.zero_add, implies_true, forall_const, shaped, shapedL, kndOf, ls_i64S', ls_i64S, ls_prS, ls_prS', ls_evtsS', ls_evtsS, ls_evtsS2, ls_length, ls_one, evtOf_evtS, prc_eta, rul_eta, dnn_eta, iOf, List.getD_cons_zero, Int.cast_ofNat_Int, capB, hjn, hQ, hQ2, hN0, hT, hT2, hEv, hAi, hLl, hDD, g1, hs1, hs2, hcm, g3, hBi, h0i, hs3, hs4, hs5]); (repeat' (first | exact True.intro | assumption | omega | apply And.intro | rfl | decide | (intro q hq; first | rfl | assumption | exact hq.elim | ((rcases q with _ | _ | q) <;> first | rfl | (exfalso; revert hq; simp; done))) | intro _)); done) | ((try simp only [JS, implies_true, forall_const, shaped, shapedL, kndOf, inR, inN]); (repeat' (first | assumption | exact True.intro | omega | apply And.intro)); done))))) | fail)
        apply At.endsRet tab_ok (fn := Try.f9) (rs := [.tmp 6]) Anc.refl hro (Nat.le_of_ble_eq_true rfl) rfl
        · exact Vm.b15
        · exact Vm.b6
        · exact Vm.b7
        · rfl
        · exact Vm.b113
        · exact Vm.b9
        · exact fun β => rfl
        · exact Vm.b113
      · have hBi : ¬ (m : Int) < 2 * (n : Int) := by omega
        have g5 := sq_C hn8 value hQ0 (by omega)
        obtain ⟨W, hW⟩ : ∃ x, foldD ⟨0, 4, 20⟩ ⟨sqR n Q, [], 0⟩ (sqL value) = x := ⟨_, rfl⟩
        rw [hSR] at g1 g2 g5 hDD hW
        by_cases h0 : n = 0
        · have h0i : (n : Int) = 0 := by omega

          repeat' (first | with_reducible (first | apply J1 | apply J3 | apply J4 | apply J5 | apply J6 | apply J7 | apply J8 | apply J9 | apply J10 | apply J11 | apply J12 | apply J13 | apply J14 | apply J15 | apply J16 | apply J17 | apply J18 | apply J19 | apply J20 | refine J2 ?_) | ((with_reducible apply J21); (· rfl)) | ((with_reducible intro hif); first | (focus (cases hif; done)) | (simp only [JH] at hif; try (exfalso; omega)) | (try (exfalso; omega))) | ((first | ((with_reducible apply J22 cSqC_ok tab_ok); (· rfl)) | ((with_reducible apply J23 fol cSqC_ok tab_ok); (· rfl)) | with_reducible apply J24); (· (simp only [push_cast, ↓JP, Nat.reduceAdd, Nat.reduceEqDiff, Nat.reduceLT, Nat.reduceMul, Nat.reduceLeDiff, reduceCtorEq, reduceIte, ↓JK, JM, JE, JB, prc_eta, rul_eta, dnn_eta, dnB, dnS, DnI.at_, DnI.v, dnR, dn0, evO_, pcS, prO, i64O, inO, cB_eq, cSqC, sAw28, sNewPG, sOneB, sOneG, sAllG, sAllF, sEq28, isI_int, iOf, evtsS, ↓evtS_sz, ↓evtS_ag, ↓evtS_pl, nav_evt, nav_evt0, nav_evt1, nav_evt2, evm_ev, isEvt_evtS, evtOf_evtS, inR, inN, Nat.sub_zero, evtOf_agg, isEvt_agg, nat_zero_int, ls_zero, ls_one, ls_evtsS, ls_evtsS', ls_evtsS2, hN, hM, hjn, hQ, hQ2, hN0, hT, hT2, hEv, hAi, hLl, hDD, g1, hs1, hs2, hcm, hW, hBi, h0i]; rfl)); (try kernel_rfl); (try (focus (first | exact True.intro | ((try simp only [JS, Nat.zero_add, implies_true, forall_const, shaped, shapedL, kndOf, ls_i64S', ls_i64S, ls_prS, ls_prS', ls_evtsS', ls_evtsS, ls_evtsS2, ls_length, ls_one, evtOf_evtS, prc_eta, rul_eta, dnn_eta, iOf, List.getD_cons_zero, Int.cast_ofNat_Int, capB, hjn, hQ, hQ2, hN0, hT, hT2, hEv, hAi, hLl, hDD, g1, hs1, hs2, hcm, hW, hBi, h0i]); (repeat' (first | exact True.intro | assumption | omega | apply And.intro | rfl | decide | (intro q hq; first | rfl | assumption | exact hq.elim | ((rcases q with _ | _ | q) <;> first | rfl | (exfalso; revert hq; simp; done))) | intro _)); done) | ((try simp only [JS, implies_true, forall_const, shaped, shapedL, kndOf, inR, inN]); (repeat' (first | assumption | exact True.intro | omega | apply And.intro)); done))))) | fail)
          apply At.endsRet tab_ok (fn := Try.f9) (rs := [.tmp 6]) Anc.refl hro (Nat.le_of_ble_eq_true rfl) rfl
          · exact Vm.b15
          · exact Vm.b6
          · exact Vm.b7
          · rfl
          · exact Vm.b113
          · exact Vm.b9
          · exact fun β => rfl
          · exact Vm.b113
        · have h0i : ¬ (n : Int) = 0 := by omega
          have hs3 := hs3 (by omega)
          have hs4 := hs4 (by omega)
          have hs5 := hs5 (by omega)

          repeat' (first | with_reducible (first | apply J1 | apply J3 | apply J4 | apply J5 | apply J6 | apply J7 | apply J8 | apply J9 | apply J10 | apply J11 | apply J12 | apply J13 | apply J14 | apply J15 | apply J16 | apply J17 | apply J18 | apply J19 | apply J20 | refine J2 ?_) | ((with_reducible apply J21); (· rfl)) | ((with_reducible intro hif); first | (focus (cases hif; done)) | (simp only [JH] at hif; try (exfalso; omega)) | (try (exfalso; omega))) | ((first | ((with_reducible apply J22 cSqC_ok tab_ok); (· rfl)) | ((with_reducible apply J23 fol cSqC_ok tab_ok); (· rfl)) | with_reducible apply J24); (· (simp only [push_cast, ↓JP, Nat.reduceAdd, Nat.reduceEqDiff, Nat.reduceLT, Nat.reduceMul, Nat.reduceLeDiff, reduceCtorEq, reduceIte, ↓JK, JM, JE, JB, prc_eta, rul_eta, dnn_eta, dnB, dnS, DnI.at_, DnI.v, dnR, dn0, evO_, pcS, prO, i64O, inO, cB_eq, cSqC, sAw28, sNewPG, sOneB, sOneG, sAllG, sAllF, sEq28, isI_int, iOf, evtsS, ↓evtS_sz, ↓evtS_ag, ↓evtS_pl, nav_evt, nav_evt0, nav_evt1, nav_evt2, evm_ev, isEvt_evtS, evtOf_evtS, inR, inN, Nat.sub_zero, evtOf_agg, isEvt_agg, nat_zero_int, ls_zero, ls_one, ls_evtsS, ls_evtsS', ls_evtsS2, hN, hM, hjn, hQ, hQ2, hN0, hT, hT2, hEv, hAi, hLl, hDD, g1, hs1, hs2, hcm, hW, hBi, h0i, hs3, hs4, hs5]; rfl)); (try kernel_rfl); (try (focus (first | exact True.intro | ((try simp only [JS, Nat.zero_add, implies_true, forall_const, shaped, shapedL, kndOf, ls_i64S', ls_i64S, ls_prS, ls_prS', ls_evtsS', ls_evtsS, ls_evtsS2, ls_length, ls_one, evtOf_evtS, prc_eta, rul_eta, dnn_eta, iOf, List.getD_cons_zero, Int.cast_ofNat_Int, capB, hjn, hQ, hQ2, hN0, hT, hT2, hEv, hAi, hLl, hDD, g1, hs1, hs2, hcm, hW, hBi, h0i, hs3, hs4, hs5]); (repeat' (first | exact True.intro | assumption | omega | apply And.intro | rfl | decide | (intro q hq; first | rfl | assumption | exact hq.elim | ((rcases q with _ | _ | q) <;> first | rfl | (exfalso; revert hq; simp; done))) | intro _)); done) | ((try simp only [JS, implies_true, forall_const, shaped, shapedL, kndOf, inR, inN]); (repeat' (first | assumption | exact True.intro | omega | apply And.intro)); done))))) | fail)
          apply At.endsRet tab_ok (fn := Try.f9) (rs := [.tmp 6]) Anc.refl hro (Nat.le_of_ble_eq_true rfl) rfl
          · exact Vm.b15
          · exact Vm.b6
          · exact Vm.b7
          · rfl
          · exact Vm.b113
          · exact Vm.b9
          · exact fun β => rfl
          · exact Vm.b113
end Go.Proofs.Ytjliakjbdcplcaa.Vm
end
end

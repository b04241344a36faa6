import Derived.Test.YtjliakjbdcplcaaGreatS6
import Derived.Test.YtjliakjbdcplcaaGreatS7
import Derived.Test.YtjliakjbdcplcaaGreatS8
import Derived.Test.YtjliakjbdcplcaaGreatS9
import Derived.Test.YtjliakjbdcplcaaGreatS11
import Derived.Test.YtjliakjbdcplcaaGreatS15
section
namespace Go.Proofs.YtjliakjbdcplcaaGreat.Vm
theorem b112 {P : Prop} (h : P := by simp only [push_cast, ↓JP, Nat.reduceAdd, Nat.reduceEqDiff, Nat.reduceLT, Nat.reduceMul, Nat.reduceLeDiff, reduceCtorEq, reduceIte, ↓JK, noDefer, List.drop_zero, List.drop_succ_cons, JE, prc_eta, cAG, sPCheck, sTakes, sPCopy, sKCmp, rHs, pcS, prO, i64O, inO, evm_ev, rHaB, rHaG, donP, dnI, isIns_insS, isI_int, isEvt_evtS, evtOf_evtS, ls_evtsS, ls_evtsS', nodupN, memN, inR, inN, ↓evtS_sz, ↓evtS_ag, ↓evtS_pl, nav_evt, nav_evt0, nav_evt1, nav_evt2, rul_eta, ls_zero, JB, dnS, dnR, dnB, evO_, dn0, evtsS, dnn_eta, hkl, he, h0]; rfl) : P := h
theorem b113 {P : Prop} (h : P := by (focus (first | exact True.intro | ((try simp only [JS, implies_true, forall_const, shaped, shapedL, kndOf, ls_prS, ls_prS', ls_i64S', ls_i64S, ls_evtsS', ls_evtsS, ls_length, evtOf_evtS, prc_eta, iOf]); (repeat' (first | exact True.intro | assumption | omega | apply And.intro | rfl | decide | intro _)); done) | ((try simp only [JS, implies_true, forall_const, shaped, shapedL, kndOf, inR, inN]); (repeat' (first | assumption | exact True.intro | omega | apply And.intro)); done)))) : P := h
theorem b114 {P : Prop} (h : P := by first | rfl | (simp only [push_cast, ↓JP, Nat.reduceAdd, Nat.reduceEqDiff, Nat.reduceLT, Nat.reduceMul, Nat.reduceLeDiff, reduceCtorEq, reduceIte, ↓JK, noDefer, List.drop_zero, List.drop_succ_cons, JE, prc_eta, cAG, sPCheck, sTakes, sPCopy, sKCmp, rHs, pcS, prO, i64O, inO, evm_ev, rHaB, rHaG, donP, dnI, isIns_insS, isI_int, isEvt_evtS, evtOf_evtS, ls_evtsS, ls_evtsS', nodupN, memN, inR, inN, ↓evtS_sz, ↓evtS_ag, ↓evtS_pl, nav_evt, nav_evt0, nav_evt1, nav_evt2, rul_eta, ls_zero, JB, dnS, dnR, dnB, evO_, dn0, evtsS, dnn_eta, hkl, he, h0]; done)) : P := h
theorem b115 {P : Prop} (h : P := by simp only [push_cast, ↓JP, Nat.reduceAdd, Nat.reduceEqDiff, Nat.reduceLT, Nat.reduceMul, Nat.reduceLeDiff, reduceCtorEq, reduceIte, ↓JK, noDefer, List.drop_zero, List.drop_succ_cons, JE, prc_eta, cAB, sPCheck, sTakes, sPCopy, sKCmp, rHs, pcS, prO, i64O, inO, evm_ev, rHaB, rHaG, donP, dnI, isIns_insS, isI_int, isEvt_evtS, evtOf_evtS, ls_evtsS, ls_evtsS', nodupN, memN, inR, inN, ↓evtS_sz, ↓evtS_ag, ↓evtS_pl, nav_evt, nav_evt0, nav_evt1, nav_evt2, rul_eta, ls_zero, JB, dnS, dnR, dnB, evO_, dn0, evtsS, dnn_eta, hkl, he, hk1]; rfl) : P := h
theorem b116 {P : Prop} (h : P := by first | rfl | (simp only [push_cast, ↓JP, Nat.reduceAdd, Nat.reduceEqDiff, Nat.reduceLT, Nat.reduceMul, Nat.reduceLeDiff, reduceCtorEq, reduceIte, ↓JK, noDefer, List.drop_zero, List.drop_succ_cons, JE, prc_eta, cAB, sPCheck, sTakes, sPCopy, sKCmp, rHs, pcS, prO, i64O, inO, evm_ev, rHaB, rHaG, donP, dnI, isIns_insS, isI_int, isEvt_evtS, evtOf_evtS, ls_evtsS, ls_evtsS', nodupN, memN, inR, inN, ↓evtS_sz, ↓evtS_ag, ↓evtS_pl, nav_evt, nav_evt0, nav_evt1, nav_evt2, rul_eta, ls_zero, JB, dnS, dnR, dnB, evO_, dn0, evtsS, dnn_eta, hkl, he, hk1]; done)) : P := h
theorem b117 {P : Prop} (h : P := by (repeat' (first | exact trivial | exact rfl | assumption | apply Stable.ite | apply And.intro | intro _ | (simp only [Stable, StableL, esS, esA, u8S, pcS, i64S, prS, insS, sndsS, sndS, evtsS, evtS, prO, i64O, inO, evO_, HB.stable]; done)))) : P := h
theorem b118 {P : Prop} (h : P := by (repeat' (first | exact trivial | exact .inl rfl | exact .inr (.same _) | exact .inr .loose | exact .inr (.arr (by assumption)) | apply And.intro | (rw [hS2]; exact .inr (less_appE _ _ hn rfl (fun β => rfl))) | (rw [hS2]; exact .inr (less_oneE _ rfl (fun β => rfl)))))) : P := h
theorem b119 {P : Prop} (h : P := by (repeat' (first | exact trivial | exact ⟨_, rfl, fun β => rfl⟩ | apply And.intro | exact ⟨_, rfl, hden⟩))) : P := h
theorem b120 {P : Prop} (h : P := by (first | exact True.intro | ((try simp only [JS, implies_true, forall_const, shaped, shapedL, kndOf, ls_prS, ls_prS', ls_i64S', ls_i64S, ls_evtsS', ls_evtsS, ls_length, evtOf_evtS, prc_eta, iOf]); (repeat' (first | exact True.intro | assumption | omega | apply And.intro | rfl | decide | intro _)); done) | ((try simp only [JS, implies_true, forall_const, shaped, shapedL, kndOf, inR, inN]); (repeat' (first | assumption | exact True.intro | omega | apply And.intro)); done))) : P := h
theorem b121 {P : Prop} (h : P := by (simp only [push_cast, ↓JP, Nat.reduceAdd, Nat.reduceEqDiff, Nat.reduceLT, Nat.reduceMul, Nat.reduceLeDiff, reduceCtorEq, reduceIte, ↓JK, JE, prc_eta, cA0, sPCheck, sTakes, sPCopy, sKCmp, rHs, pcS, prO, i64O, inO, evm_ev, rHaB, rHaG, donP, dnI, isIns_insS, isI_int, isEvt_evtS, evtOf_evtS, ls_evtsS, ls_evtsS', nodupN, memN, inR, inN, ↓evtS_sz, ↓evtS_ag, ↓evtS_pl, nav_evt, nav_evt0, nav_evt1, nav_evt2, rul_eta, ls_zero, JB, dnS, dnR, dnB, evO_, dn0, evtsS, dnn_eta]; rfl)) : P := h
theorem b122 {P : Prop} (h : P := by (simp only [push_cast, ↓JP, Nat.reduceAdd, Nat.reduceEqDiff, Nat.reduceLT, Nat.reduceMul, Nat.reduceLeDiff, reduceCtorEq, reduceIte, ↓JK, JE, prc_eta, cAG, sPCheck, sTakes, sPCopy, sKCmp, rHs, pcS, prO, i64O, inO, evm_ev, rHaB, rHaG, donP, dnI, isIns_insS, isI_int, isEvt_evtS, evtOf_evtS, ls_evtsS, ls_evtsS', nodupN, memN, inR, inN, ↓evtS_sz, ↓evtS_ag, ↓evtS_pl, nav_evt, nav_evt0, nav_evt1, nav_evt2, rul_eta, ls_zero, JB, dnS, dnR, dnB, evO_, dn0, evtsS, dnn_eta, hkl, he, h0]; rfl)) : P := h
theorem b123 {P : Prop} (h : P := by (simp only [push_cast, ↓JP, Nat.reduceAdd, Nat.reduceEqDiff, Nat.reduceLT, Nat.reduceMul, Nat.reduceLeDiff, reduceCtorEq, reduceIte, ↓JK, JE, prc_eta, cAB, sPCheck, sTakes, sPCopy, sKCmp, rHs, pcS, prO, i64O, inO, evm_ev, rHaB, rHaG, donP, dnI, isIns_insS, isI_int, isEvt_evtS, evtOf_evtS, ls_evtsS, ls_evtsS', nodupN, memN, inR, inN, ↓evtS_sz, ↓evtS_ag, ↓evtS_pl, nav_evt, nav_evt0, nav_evt1, nav_evt2, rul_eta, ls_zero, JB, dnS, dnR, dnB, evO_, dn0, evtsS, dnn_eta, hkl, he, hk1]; rfl)) : P := h
theorem b124 {P : Prop} (h : P := by (first | exact True.intro | ((try simp only [JS, implies_true, forall_const, shaped, shapedL, kndOf]); (repeat' (first | exact True.intro | omega | assumption | exact ⟨fun q _ => rfl, hx, hcap⟩ | exact ⟨rfl, fun q _ => rfl, hx, hcap⟩ | apply And.intro | rfl | decide | intro _)); done) | ((try simp only [JS, implies_true, forall_const, shaped, shapedL, kndOf]); (repeat' (first | assumption | exact True.intro | omega | apply And.intro)); done))) : P := h
theorem b125 {P : Prop} (h : P := by (simp only [push_cast, ↓JP, Nat.reduceAdd, Nat.reduceEqDiff, Nat.reduceLT, Nat.reduceMul, Nat.reduceLeDiff, reduceCtorEq, reduceIte, ↓JK, cM28N, Nat.sub_zero, hm]; rfl)) : P := h
theorem b126 {P : Prop} (h : P := by (simp only [push_cast, ↓JP, Nat.reduceAdd, Nat.reduceEqDiff, Nat.reduceLT, Nat.reduceMul, Nat.reduceLeDiff, reduceCtorEq, reduceIte, ↓JK, cM28N, Nat.sub_zero, hm, hkl, he, evtsS, ↓evtS_sz, ↓evtS_ag, ↓evtS_pl, nav_evt, nav_evt0, nav_evt1, nav_evt2, evm_ev, hk0, hkm, hte]; rfl)) : P := h
end Go.Proofs.YtjliakjbdcplcaaGreat.Vm
end
section
namespace Go.Proofs.YtjliakjbdcplcaaGreat.Vm
open Go.RowKit
attribute [local push_cast] runR opG gtmp gval gus opX tmpsOf tm tmO tmP restr look look2 tab tys zs ets eqB eqBL allB numOf ieq Int.cast_ofNat_Int Int.ofNat_zero beq_true beq_false frameOf ev evL ofV opV loadV noW pushF wrsL setH allBorn allGone HB.born HB.isGone HB.val SV.plain dstOk hp nav fitsT SV.size sizeL SV.isAgg TK.size TK.agg bin binE binN binI arN arI cmpN cmpI keq kn narrow callV storeV setp fillV buildV buildSliceV makeV sliceV appendV appendFV slice3V copyV List.isEmpty_nil srcV evO asN ite_t ite_f ite_bool ite_int ite_nat maxV v_beq v_ble v_blt cond_true cond_false List.getElem?_cons_zero List.getElem?_cons_succ List.getD_cons_zero List.getD_cons_succ List.getD_nil List.length_cons List.length_nil List.take_succ_cons List.take_zero List.set_cons_zero List.set_cons_succ List.cons_append List.nil_append List.append_assoc List.replicate_succ List.replicate_zero Nat.zero_add Nat.add_zero decide_true decide_false Bool.true_and Bool.and_true Bool.false_and Bool.and_false Bool.true_or Bool.or_true Bool.false_or Bool.or_false beq_self_eq_true Bool.or_self Nat.lt_irrefl Nat.not_lt_zero Nat.le_refl Option.getD_some Option.getD_none BEq.rfl Bool.not_true Bool.not_false Bool.cond_true_left Bool.cond_false_right prS sndsS i64S nav_ins nav_ins0 nav_ins1 nav_ins2 nav_ins3 nav_ins4 nav_snd nav_snd0 nav_snd1 nav_snd2 isIns_insS insOf_insS isSnd_sndS sndOf_sndS isI_int isI_nat iOf
set_option linter.unusedVariables false
set_option linter.unusedSimpArgs false
set_option maxRecDepth 100000
set_option maxHeartbeats 4000000
theorem hs_lit (r : Rul) (n p : Nat) : LitOk Tryz.prog 76 [.ptr 1 [], .agg [.int .u64 r.seed, .int .i64 r.ahead, .int .i64 r.fuel], .sl 2 3 [] 5 0 n (some p)] [.gone, .gone, .gone, .gone] (.fn 106 [.ptr 6 [], .ptr 4 [], .ptr 5 []])
    [.gone, .gone, .gone, .gone, .own 160 (.ptr 1 []) true, .own 65 (.agg [.int .u64 r.seed, .int .i64 r.ahead, .int .i64 r.fuel]) true, .own 68 (.sl 2 3 [] 5 0 n (some p)) true] := by
  refine litOkM (fn := Tryz.f76) 4 8 0 rfl rfl rfl rfl rfl (by simp only [StableL, Stable, hp, pcS, dnB, DnI.at_, dnS, dnR, i64S, prS, insS, sndsS, sndS, evtsS, evtS, prO, i64O, inO, evO_, cB, sB, HB.stable]; simp [HB.born]) rfl fun w0 M E hro => ?_
  repeat' (first | refine Ctl.h ?_ | ((with_reducible intro hif); first | (focus (cases hif; done)) | (simp only [JH] at hif; try (exfalso; omega)) | (try (exfalso; omega))) | ((first | ((with_reducible apply J22 c1_ok tab_ok); (· rfl)) | ((with_reducible apply J23 fol c1_ok tab_ok); (· rfl)) | with_reducible apply J24); (· exact Vm.b34); (try kernel_rfl); (try exact Vm.b22)) | fail)
  apply At.endsPick [0, 1, 2, 3, 4, 5, 6] tab_ok (fn := Tryz.f76) (rs := [.tmp 6]) Anc.refl hro (Nat.le_of_ble_eq_true rfl) rfl
  · exact Vm.b18
  · exact Vm.b24
  · rfl
  · rfl
  · rfl
  · exact Vm.b37
  · rfl
  · exact Vm.b105
  · exact Vm.b10
  · exact fun β => rfl
  · exact Vm.b105
def rHs : Spec := fun args h m => match args with
  | [.ptr d [], .agg [.int .u64 a, .int .i64 b, .int .i64 k], .sl z i [] 5 0 n (some p)] => bif (h d).born && ((h z).born && (h i).born) && nodupN [0, d, z, i] then some (True, .fn 106 [.ptr (m + 2) [], .ptr m [], .ptr (m + 1) []], [d, z, i],
      [(m, .own 160 (.ptr d []) true), (m + 1, .own 65 (.agg [.int .u64 a, .int .i64 b, .int .i64 k]) true), (m + 2, .own 68 (.sl z i [] 5 0 n (some p)) true)]) else none
  | _ => none
theorem rHs_ok : CallOk Tryz.prog 76 rHs := by
  refine ⟨named_spec (by kernel_rfl), fun args h m c v rd wr hs hm hc w0 M β h' w R hrd hwr hst => ?_⟩
  unfold rHs at hs
  split at hs
  · rename_i d a b k z i n p
    obtain ⟨hb, hs⟩ := bif_some hs
    simp only [Option.some.injEq, Prod.mk.injEq] at hs
    obtain ⟨rfl, rfl, rfl, rfl⟩ := hs
    simp only [Bool.and_eq_true] at hb
    obtain ⟨⟨b1, b2, b3⟩, hnd⟩ := hb
    have e1 : rhoL [0, d, z, i] m 4 = m := by simp [rhoL]
    have e2 : rhoL [0, d, z, i] m 5 = m + 1 := by simp [rhoL]
    have e3 : rhoL [0, d, z, i] m 6 = m + 2 := by simp [rhoL]
    have e4 : rhoL [0, d, z, i] m 1 = d := by simp [rhoL]
    have e5 : rhoL [0, d, z, i] m 2 = z := by simp [rhoL]
    have e6 : rhoL [0, d, z, i] m 3 = i := by simp [rhoL]
    exact bun_ok (h := h) (m := m) [0, d, z, i] (hs_lit ⟨a, b, k⟩ n p) R rfl (by simp) rfl rfl hnd
      ⟨Fit.gone (by rw [R.nil0]; rfl), Fit.gone (by rw [hrd d (by simp)]; exact b1), Fit.gone (by rw [hrd z (by simp)]; exact b2), Fit.gone (by rw [hrd i (by simp)]; exact b3), trivial⟩ hm
      (fun p' hp => by
        simp only [newB, List.drop, List.length_cons, List.length_nil, List.mem_cons, List.not_mem_nil, or_false] at hp
        rcases hp with rfl | rfl | rfl
        · exact hwr (m, .own 160 (.ptr d []) true) (by simp)
        · exact hwr (m + 1, .own 65 (.agg [.int .u64 a, .int .i64 b, .int .i64 k]) true) (by simp)
        · exact hwr (m + 2, .own 68 (.sl z i [] 5 0 n (some p)) true) (by simp)) (by simp) rfl
      ⟨trivial, trivial, trivial, trivial, trivial⟩ ⟨rfl, by simp [Stable, StableL], ⟨rfl, rfl⟩, trivial⟩ ⟨trivial, trivial, trivial, trivial, by simp [HB.stable, Stable, hp, mrgL, HB.born, HB.mine], by simp [HB.stable, Stable, StableL], by simp [HB.stable, Stable, hp, mrgL, HB.born, HB.mine], trivial⟩ (by simp [Stable, StableL, hp, mrgL, HB.born, HB.mine]) rfl
      (by simp only [SV.ren, renL, e1, e2, e3]) (by
        show [(m, (HB.own 160 (.ptr 1 []) true).ren _), (m + 1, (HB.own 65 (.agg [.int .u64 a, .int .i64 b, .int .i64 k]) true).ren _), (m + 2, (HB.own 68 (.sl 2 3 [] 5 0 n (some p)) true).ren _)] = _
        simp only [HB.ren, SV.ren, renL, e4, e5, e6])
  · cases hs
theorem badAt_zero {p : Prc} {l : List Evt} {i : Nat} (h : badAt p l i = 0) : takesB p (l.getD i ⟨0, 0, 0, 0, 0⟩) = true ∧ (0 < i → ¬ 0 ≤ (kcmp (l.getD (i - 1) ⟨0, 0, 0, 0, 0⟩).time (l.getD (i - 1) ⟨0, 0, 0, 0, 0⟩).source (l.getD (i - 1) ⟨0, 0, 0, 0, 0⟩).seq (l.getD i ⟨0, 0, 0, 0, 0⟩).time (l.getD i ⟨0, 0, 0, 0, 0⟩).source (l.getD i ⟨0, 0, 0, 0, 0⟩).seq).1) := by
  have ht := badAt_takes h
  refine ⟨ht, fun h0 hk => ?_⟩
  unfold badAt at h
  rw [if_neg (by rw [ht]; exact Bool.noConfusion), if_pos ⟨h0, hk⟩] at h
  cases h
theorem badAt_not {p : Prc} {l : List Evt} {i : Nat} (h : badAt p l i ≠ 0) : (takesB p (l.getD i ⟨0, 0, 0, 0, 0⟩) = false ∧ badAt p l i = 282) ∨ (takesB p (l.getD i ⟨0, 0, 0, 0, 0⟩) = true ∧ badAt p l i = 283 ∧ 0 < i ∧ 0 ≤ (kcmp (l.getD (i - 1) ⟨0, 0, 0, 0, 0⟩).time (l.getD (i - 1) ⟨0, 0, 0, 0, 0⟩).source (l.getD (i - 1) ⟨0, 0, 0, 0, 0⟩).seq (l.getD i ⟨0, 0, 0, 0, 0⟩).time (l.getD i ⟨0, 0, 0, 0, 0⟩).source (l.getD i ⟨0, 0, 0, 0, 0⟩).seq).1) := by
  unfold badAt at h ⊢
  cases ht : takesB p (l.getD i ⟨0, 0, 0, 0, 0⟩)
  · exact .inl ⟨rfl, if_pos rfl⟩
  · rw [ht] at h
    rw [if_neg Bool.noConfusion] at h ⊢
    by_cases hk : 0 < i ∧ 0 ≤ (kcE (l.getD (i - 1) ⟨0, 0, 0, 0, 0⟩) (l.getD i ⟨0, 0, 0, 0, 0⟩)).1
    · exact .inr ⟨rfl, if_pos hk, hk.1, hk.2⟩
    · rw [if_neg hk] at h; exact absurd rfl h
theorem dnn_eta (D : Dn) : Dn.mk D.p D.sent D.used = D := rfl
structure KD where
  k : Nat
  D : Dn
def cA0 : FuncId → Option Spec := look2 [(30, sPCheck), (74, sTakes), (71, sPCopy), (75, sKCmp), (76, rHs)]
theorem cA0_ok : ∀ f S, cA0 f = some S → CallOk Tryz.prog f S := allOk_spec ⟨sPCheck_ok, sTakes_ok, sPCopy_ok, sKCmp_ok, rHs_ok, trivial⟩
def cAB : FuncId → Option Spec := look2 [(30, sPCheck), (74, sTakes), (71, sPCopy), (75, sKCmp), (76, rHs), (96, rHaB)]
theorem cAB_ok : ∀ f S, cAB f = some S → CallOk Tryz.prog f S := allOk_spec ⟨sPCheck_ok, sTakes_ok, sPCopy_ok, sKCmp_ok, rHs_ok, rHaB_ok, trivial⟩
def cAG : FuncId → Option Spec := look2 [(30, sPCheck), (74, sTakes), (71, sPCopy), (75, sKCmp), (76, rHs), (96, rHaG)]
theorem cAG_ok : ∀ f S, cAG f = some S → CallOk Tryz.prog f S := allOk_spec ⟨sPCheck_ok, sTakes_ok, sPCopy_ok, sKCmp_ok, rHs_ok, rHaG_ok, trivial⟩
theorem nav_evt0 (e : Evt) (pa : List Stp) : nav (evtS e) (.f 0 0 :: pa) = nav (.agg [.int .i64 e.time, .int .i64 e.source, .int .i64 e.seq]) pa := rfl
theorem nav_evt1 (e : Evt) (pa : List Stp) : nav (evtS e) (.f 1 3 :: pa) = nav (.int .i64 e.to_) pa := rfl
theorem nav_evt2 (e : Evt) (pa : List Stp) : nav (evtS e) (.f 2 4 :: pa) = nav (.int .i64 e.value) pa := rfl
theorem all_bad (r : Rul) (p : Prc) (l : List Evt) (p1 p2 p3 p4 : Nat) (hok : ∀ x ∈ p.P, x.ok) (hn : p.P.length ≤ 1000000) (hc : p.cells.length ≤ 1000000) (hpo : p.ports.length ≤ 1000000) (hll : l.length ≤ 200) (i : Nat) (hi : i < l.length) (hE0 : procE r p = 0) (hB : ∀ q, q < i → badAt p l q = 0) (hb : badAt p l i ≠ 0) : LitOk Tryz.prog 24 [.agg [.int .u64 r.seed, .int .i64 r.ahead, .int .i64 r.fuel], .agg [.int .i64 p.id, .sl 1 2 [] 5 0 p.P.length (some p1), .sl 3 4 [] 1 0 p.cells.length (some p2), .int .i64 p.draws, .int .i64 p.seq, .sl 5 6 [] 1 0 p.ports.length (some p3)], .sl 7 8 [] 5 0 l.length (some p4)]
    [.gone, .gone, .ro (.arr p.P.length 5 (prS p.P)), .gone, .ro (.arr p.cells.length 1 (i64S p.cells)), .gone, .ro (.arr p.ports.length 1 (i64S p.ports)), .gone, .ro (.arr l.length 5 (evtsS l))]
    (.tup [dn0, .nat .i64 i, .int .i64 (badAt p l i)]) [.gone] := by

  refine litOkM (fn := Tryz.f24) 9 80 0 rfl rfl rfl rfl rfl (by simp only [StableL, Stable, hp, pcS, dnB, DnI.at_, dnS, dnR, i64S, prS, insS, sndsS, sndS, evtsS, evtS, prO, i64O, inO, evO_, cB, sB, HB.stable]; simp [HB.born, evtS]) rfl fun w0 M E hro => ?_
  repeat' (first | refine Ctl.h ?_ | ((with_reducible intro hif); first | (focus (cases hif; done)) | (simp only [JH] at hif; try (exfalso; omega)) | (try (exfalso; omega))) | ((first | ((with_reducible apply J22 cA0_ok tab_ok); (· rfl)) | ((with_reducible apply J23 fol cA0_ok tab_ok); (· rfl)) | with_reducible apply J24); (· (simp only [push_cast, ↓JP, Nat.reduceAdd, Nat.reduceEqDiff, Nat.reduceLT, Nat.reduceMul, Nat.reduceLeDiff, reduceCtorEq, reduceIte, ↓JK, JE, prc_eta, cA0, sPCheck, sTakes, sPCopy, sKCmp, rHs, pcS, prO, i64O, inO, evm_ev, rHaB, rHaG, donP, dnI, isIns_insS, isI_int, isEvt_evtS, evtOf_evtS, ls_evtsS, ls_evtsS', nodupN, memN, inR, inN, ↓evtS_sz, ↓evtS_ag, ↓evtS_pl, nav_evt, nav_evt0, nav_evt1, nav_evt2, rul_eta, ls_zero, JB, dnS, dnR, dnB, evO_, dn0, evtsS, hE0]; rfl)); (try kernel_rfl); (try exact Vm.b120)) | fail)
  refine WF.loopAt (fun (j : Nat) => j ≤ i) (fun (j : Nat) => [(2, .sl 7 8 [] 5 0 l.length (some p4)), (3, .ptr 9 []), (4, .ptr 10 []), (6, .ptr 11 []), (26, .sl 7 8 [] 5 0 l.length (some p4)), (27, .nat .i64 l.length), (28, .nat .i64 j)]) (fun (j : Nat) => [.gone, .gone, .ro (.arr p.P.length 5 (prS p.P)), .gone, .ro (.arr p.cells.length 1 (i64S p.cells)), .gone, .ro (.arr p.ports.length 1 (i64S p.ports)), .gone, .ro (.arr l.length 5 (evtsS l)), .own 65 (.agg [.int .u64 r.seed, .int .i64 r.ahead, .int .i64 r.fuel]) true, .own 67 (.agg [.int .i64 p.id, .sl 1 2 [] 5 0 p.P.length (some p1), .sl 3 4 [] 1 0 p.cells.length (some p2), .int .i64 p.draws, .int .i64 p.seq, .sl 5 6 [] 1 0 p.ports.length (some p3)]) true, .own 82 dn0 true]) (fun (j : Nat) => i - j) 0 (Nat.zero_le _) ?_ ?_ rfl ?_ ?_ rfl ?_
  · exact Vm.b11
  · exact Vm.b8
  · exact Vm.b105
  · exact Vm.b105
  intro j hj
  by_cases hji : j < i
  · have hbj := hB j hji
    have hjl : j < l.length := by omega
    obtain ⟨hT, hK⟩ := badAt_zero hbj
    by_cases hj0 : 0 < j
    · have hK := hK hj0
      have hjm : ((j : Int) - 1).toNat = j - 1 := by omega
      repeat' (first | refine Ctl.h ?_ | ((with_reducible intro hif); first | (focus (cases hif; done)) | (simp only [JH] at hif; try (exfalso; omega)) | (try (exfalso; omega))) | ((first | ((with_reducible apply J22 cA0_ok tab_ok); (· rfl)) | ((with_reducible apply J23 fol cA0_ok tab_ok); (· rfl)) | with_reducible apply J24); (· (simp only [push_cast, ↓JP, Nat.reduceAdd, Nat.reduceEqDiff, Nat.reduceLT, Nat.reduceMul, Nat.reduceLeDiff, reduceCtorEq, reduceIte, ↓JK, JE, prc_eta, cA0, sPCheck, sTakes, sPCopy, sKCmp, rHs, pcS, prO, i64O, inO, evm_ev, rHaB, rHaG, donP, dnI, isIns_insS, isI_int, isEvt_evtS, evtOf_evtS, ls_evtsS, ls_evtsS', nodupN, memN, inR, inN, ↓evtS_sz, ↓evtS_ag, ↓evtS_pl, nav_evt, nav_evt0, nav_evt1, nav_evt2, rul_eta, ls_zero, JB, dnS, dnR, dnB, evO_, dn0, evtsS, hjl, hT, hj0, hjm, hK]; rfl)); (try kernel_rfl); (try exact Vm.b120)) | fail)
      refine At.next (j + 1) ?_ ?_ ?_ rfl ?_ ?_ rfl
      · omega
      · exact Vm.b11
      · exact Vm.b8
      · exact Vm.b105
      · exact Vm.b105
    · obtain rfl : j = 0 := by omega
      repeat' (first | refine Ctl.h ?_ | ((with_reducible intro hif); first | (focus (cases hif; done)) | (simp only [JH] at hif; try (exfalso; omega)) | (try (exfalso; omega))) | ((first | ((with_reducible apply J22 cA0_ok tab_ok); (· rfl)) | ((with_reducible apply J23 fol cA0_ok tab_ok); (· rfl)) | with_reducible apply J24); (· (simp only [push_cast, ↓JP, Nat.reduceAdd, Nat.reduceEqDiff, Nat.reduceLT, Nat.reduceMul, Nat.reduceLeDiff, reduceCtorEq, reduceIte, ↓JK, JE, prc_eta, cA0, sPCheck, sTakes, sPCopy, sKCmp, rHs, pcS, prO, i64O, inO, evm_ev, rHaB, rHaG, donP, dnI, isIns_insS, isI_int, isEvt_evtS, evtOf_evtS, ls_evtsS, ls_evtsS', nodupN, memN, inR, inN, ↓evtS_sz, ↓evtS_ag, ↓evtS_pl, nav_evt, nav_evt0, nav_evt1, nav_evt2, rul_eta, ls_zero, JB, dnS, dnR, dnB, evO_, dn0, evtsS, hjl, hT]; rfl)); (try kernel_rfl); (try exact Vm.b120)) | fail)
      refine At.next (0 + 1) ?_ ?_ ?_ rfl ?_ ?_ rfl
      · omega
      · exact Vm.b11
      · exact Vm.b8
      · exact Vm.b105
      · exact Vm.b105
  · obtain rfl : j = i := by omega
    rcases badAt_not hb with ⟨hT, hv⟩ | ⟨hT, hv, hj0, hK⟩
    · skip
      repeat' (first | refine Ctl.h ?_ | ((with_reducible intro hif); first | (focus (cases hif; done)) | (simp only [JH] at hif; try (exfalso; omega)) | (try (exfalso; omega))) | ((first | ((with_reducible apply J22 cA0_ok tab_ok); (· rfl)) | ((with_reducible apply J23 fol cA0_ok tab_ok); (· rfl)) | with_reducible apply J24); (· (simp only [push_cast, ↓JP, Nat.reduceAdd, Nat.reduceEqDiff, Nat.reduceLT, Nat.reduceMul, Nat.reduceLeDiff, reduceCtorEq, reduceIte, ↓JK, JE, prc_eta, cA0, sPCheck, sTakes, sPCopy, sKCmp, rHs, pcS, prO, i64O, inO, evm_ev, rHaB, rHaG, donP, dnI, isIns_insS, isI_int, isEvt_evtS, evtOf_evtS, ls_evtsS, ls_evtsS', nodupN, memN, inR, inN, ↓evtS_sz, ↓evtS_ag, ↓evtS_pl, nav_evt, nav_evt0, nav_evt1, nav_evt2, rul_eta, ls_zero, JB, dnS, dnR, dnB, evO_, dn0, evtsS, hi, hT]; rfl)); (try kernel_rfl); (try exact Vm.b120)) | fail)
      apply At.endsRet tab_ok (fn := Tryz.f24) (rs := [.cell 6 82, .tmp 7, .tmp 8]) Anc.refl hro (Nat.le_of_ble_eq_true rfl) rfl
      · exact Vm.b18
      · exact Vm.b7
      · exact Vm.b8
      · rfl
      · exact Vm.b105
      · exact Vm.b10
      · rw [hv]; exact fun β => rfl
      · exact Vm.b105
    · have hjm : ((j : Int) - 1).toNat = j - 1 := by omega
      repeat' (first | refine Ctl.h ?_ | ((with_reducible intro hif); first | (focus (cases hif; done)) | (simp only [JH] at hif; try (exfalso; omega)) | (try (exfalso; omega))) | ((first | ((with_reducible apply J22 cA0_ok tab_ok); (· rfl)) | ((with_reducible apply J23 fol cA0_ok tab_ok); (· rfl)) | with_reducible apply J24); (· (simp only [push_cast, ↓JP, Nat.reduceAdd, Nat.reduceEqDiff, Nat.reduceLT, Nat.reduceMul, Nat.reduceLeDiff, reduceCtorEq, reduceIte, ↓JK, JE, prc_eta, cA0, sPCheck, sTakes, sPCopy, sKCmp, rHs, pcS, prO, i64O, inO, evm_ev, rHaB, rHaG, donP, dnI, isIns_insS, isI_int, isEvt_evtS, evtOf_evtS, ls_evtsS, ls_evtsS', nodupN, memN, inR, inN, ↓evtS_sz, ↓evtS_ag, ↓evtS_pl, nav_evt, nav_evt0, nav_evt1, nav_evt2, rul_eta, ls_zero, JB, dnS, dnR, dnB, evO_, dn0, evtsS, hi, hT, hj0, hjm, hK]; rfl)); (try kernel_rfl); (try exact Vm.b120)) | fail)
      apply At.endsRet tab_ok (fn := Tryz.f24) (rs := [.cell 6 82, .tmp 7, .tmp 8]) Anc.refl hro (Nat.le_of_ble_eq_true rfl) rfl
      · exact Vm.b18
      · exact Vm.b7
      · exact Vm.b8
      · rfl
      · exact Vm.b105
      · exact Vm.b10
      · rw [hv]; exact fun β => rfl
      · exact Vm.b105
theorem all_gen (r : Rul) (p : Prc) (l : List Evt) (p1 p2 p3 p4 : Nat) (hok : ∀ x ∈ p.P, x.ok) (hn : p.P.length ≤ 1000000) (hc : p.cells.length ≤ 1000000) (hpo : p.ports.length ≤ 1000000) (hll : l.length ≤ 200) (hE0 : procE r p = 0) (hB : ∀ q, q < l.length → badAt p l q = 0) (k0 : Nat) (hk0 : k0 ≤ l.length) (hAll : AllK r ⟨p, [], 0⟩ l k0) (v : SV) (L1 : List HB) (hc0 : (k0 = l.length ∧ v = (.tup [dnS (foldD r ⟨p, [], 0⟩ l) 9 10 11 12, .int .i64 (-1), .int .i64 0]) ∧ L1 = [.gone, .gone, .gone, .gone, .gone, .gone, .gone, .gone, .gone, prO (foldD r ⟨p, [], 0⟩ l).p.P, i64O (foldD r ⟨p, [], 0⟩ l).p.cells, inO (foldD r ⟨p, [], 0⟩ l).p.ports, evO_ (foldD r ⟨p, [], 0⟩ l).sent]) ∨ (k0 < l.length ∧ hE r (foldD r ⟨p, [], 0⟩ (l.take k0)).p (l.getD k0 ⟨0, 0, 0, 0, 0⟩) ≠ 0 ∧ v = (.tup [dn0, .nat .i64 k0, .int .i64 (hE r (foldD r ⟨p, [], 0⟩ (l.take k0)).p (l.getD k0 ⟨0, 0, 0, 0, 0⟩))]) ∧ L1 = [.gone])) : LitOk Tryz.prog 24 [.agg [.int .u64 r.seed, .int .i64 r.ahead, .int .i64 r.fuel], .agg [.int .i64 p.id, .sl 1 2 [] 5 0 p.P.length (some p1), .sl 3 4 [] 1 0 p.cells.length (some p2), .int .i64 p.draws, .int .i64 p.seq, .sl 5 6 [] 1 0 p.ports.length (some p3)], .sl 7 8 [] 5 0 l.length (some p4)]
    [.gone, .gone, .ro (.arr p.P.length 5 (prS p.P)), .gone, .ro (.arr p.cells.length 1 (i64S p.cells)), .gone, .ro (.arr p.ports.length 1 (i64S p.ports)), .gone, .ro (.arr l.length 5 (evtsS l))]
    v L1 := by

  refine litOkM (fn := Tryz.f24) 9 80 0 rfl rfl rfl rfl rfl (by simp only [StableL, Stable, hp, pcS, dnB, DnI.at_, dnS, dnR, i64S, prS, insS, sndsS, sndS, evtsS, evtS, prO, i64O, inO, evO_, cB, sB, HB.stable]; simp [HB.born, evtS]) rfl fun w0 M E hro => ?_
  repeat' (first | refine Ctl.h ?_ | ((with_reducible intro hif); first | (focus (cases hif; done)) | (simp only [JH] at hif; try (exfalso; omega)) | (try (exfalso; omega))) | ((first | ((with_reducible apply J22 cA0_ok tab_ok); (· rfl)) | ((with_reducible apply J23 fol cA0_ok tab_ok); (· rfl)) | with_reducible apply J24); (· (simp only [push_cast, ↓JP, Nat.reduceAdd, Nat.reduceEqDiff, Nat.reduceLT, Nat.reduceMul, Nat.reduceLeDiff, reduceCtorEq, reduceIte, ↓JK, JE, prc_eta, cA0, sPCheck, sTakes, sPCopy, sKCmp, rHs, pcS, prO, i64O, inO, evm_ev, rHaB, rHaG, donP, dnI, isIns_insS, isI_int, isEvt_evtS, evtOf_evtS, ls_evtsS, ls_evtsS', nodupN, memN, inR, inN, ↓evtS_sz, ↓evtS_ag, ↓evtS_pl, nav_evt, nav_evt0, nav_evt1, nav_evt2, rul_eta, ls_zero, JB, dnS, dnR, dnB, evO_, dn0, evtsS, dnn_eta, hE0]; rfl)); (try kernel_rfl); (try exact Vm.b120)) | fail)
  refine WF.loopAt (fun (j : Nat) => j ≤ l.length) (fun (j : Nat) => [(2, .sl 7 8 [] 5 0 l.length (some p4)), (3, .ptr 9 []), (4, .ptr 10 []), (6, .ptr 11 []), (26, .sl 7 8 [] 5 0 l.length (some p4)), (27, .nat .i64 l.length), (28, .nat .i64 j)]) (fun (j : Nat) => [.gone, .gone, .ro (.arr p.P.length 5 (prS p.P)), .gone, .ro (.arr p.cells.length 1 (i64S p.cells)), .gone, .ro (.arr p.ports.length 1 (i64S p.ports)), .gone, .ro (.arr l.length 5 (evtsS l)), .own 65 (.agg [.int .u64 r.seed, .int .i64 r.ahead, .int .i64 r.fuel]) true, .own 67 (.agg [.int .i64 p.id, .sl 1 2 [] 5 0 p.P.length (some p1), .sl 3 4 [] 1 0 p.cells.length (some p2), .int .i64 p.draws, .int .i64 p.seq, .sl 5 6 [] 1 0 p.ports.length (some p3)]) true, .own 82 dn0 true]) (fun (j : Nat) => l.length - j) 0 (Nat.zero_le _) ?_ ?_ rfl ?_ ?_ rfl ?_
  · exact Vm.b11
  · exact Vm.b8
  · exact Vm.b105
  · exact Vm.b105
  intro j hj
  by_cases hjl : j < l.length
  · have hbj := hB j hjl
    obtain ⟨hT, hK⟩ := badAt_zero hbj
    by_cases hj0 : 0 < j
    · have hK := hK hj0
      have hjm : ((j : Int) - 1).toNat = j - 1 := by omega
      repeat' (first | refine Ctl.h ?_ | ((with_reducible intro hif); first | (focus (cases hif; done)) | (simp only [JH] at hif; try (exfalso; omega)) | (try (exfalso; omega))) | ((first | ((with_reducible apply J22 cA0_ok tab_ok); (· rfl)) | ((with_reducible apply J23 fol cA0_ok tab_ok); (· rfl)) | with_reducible apply J24); (· (simp only [push_cast, ↓JP, Nat.reduceAdd, Nat.reduceEqDiff, Nat.reduceLT, Nat.reduceMul, Nat.reduceLeDiff, reduceCtorEq, reduceIte, ↓JK, JE, prc_eta, cA0, sPCheck, sTakes, sPCopy, sKCmp, rHs, pcS, prO, i64O, inO, evm_ev, rHaB, rHaG, donP, dnI, isIns_insS, isI_int, isEvt_evtS, evtOf_evtS, ls_evtsS, ls_evtsS', nodupN, memN, inR, inN, ↓evtS_sz, ↓evtS_ag, ↓evtS_pl, nav_evt, nav_evt0, nav_evt1, nav_evt2, rul_eta, ls_zero, JB, dnS, dnR, dnB, evO_, dn0, evtsS, dnn_eta, hjl, hT, hj0, hjm, hK]; rfl)); (try kernel_rfl); (try exact Vm.b120)) | fail)
      refine At.next (j + 1) ?_ ?_ ?_ rfl ?_ ?_ rfl
      · omega
      · exact Vm.b11
      · exact Vm.b8
      · exact Vm.b105
      · exact Vm.b105
    · obtain rfl : j = 0 := by omega
      repeat' (first | refine Ctl.h ?_ | ((with_reducible intro hif); first | (focus (cases hif; done)) | (simp only [JH] at hif; try (exfalso; omega)) | (try (exfalso; omega))) | ((first | ((with_reducible apply J22 cA0_ok tab_ok); (· rfl)) | ((with_reducible apply J23 fol cA0_ok tab_ok); (· rfl)) | with_reducible apply J24); (· (simp only [push_cast, ↓JP, Nat.reduceAdd, Nat.reduceEqDiff, Nat.reduceLT, Nat.reduceMul, Nat.reduceLeDiff, reduceCtorEq, reduceIte, ↓JK, JE, prc_eta, cA0, sPCheck, sTakes, sPCopy, sKCmp, rHs, pcS, prO, i64O, inO, evm_ev, rHaB, rHaG, donP, dnI, isIns_insS, isI_int, isEvt_evtS, evtOf_evtS, ls_evtsS, ls_evtsS', nodupN, memN, inR, inN, ↓evtS_sz, ↓evtS_ag, ↓evtS_pl, nav_evt, nav_evt0, nav_evt1, nav_evt2, rul_eta, ls_zero, JB, dnS, dnR, dnB, evO_, dn0, evtsS, dnn_eta, hjl, hT]; rfl)); (try kernel_rfl); (try exact Vm.b120)) | fail)
      refine At.next (0 + 1) ?_ ?_ ?_ rfl ?_ ?_ rfl
      · omega
      · exact Vm.b11
      · exact Vm.b8
      · exact Vm.b105
      · exact Vm.b105
  · obtain rfl : j = l.length := by omega
    repeat' (first | refine Ctl.h ?_ | ((with_reducible intro hif); first | (focus (cases hif; done)) | (simp only [JH] at hif; try (exfalso; omega)) | (try (exfalso; omega))) | ((first | ((with_reducible apply J22 cA0_ok tab_ok); (· rfl)) | ((with_reducible apply J23 fol cA0_ok tab_ok); (· rfl)) | with_reducible apply J24); (· exact Vm.b121); (try kernel_rfl); (try exact Vm.b120)) | fail)
    refine WF.nilIn 29 5 (evtsS []) 15 82 (.agg [.agg [.int .i64 p.id, .sl 12 12 [] 5 0 p.P.length none, .sl 13 13 [] 1 0 p.cells.length none, .int .i64 p.draws, .int .i64 p.seq, .sl 14 14 [] 1 0 p.ports.length none], .sl 0 0 [] 0 0 0 (some 0), .nat .i64 0]) (dnR p.id p.draws p.seq p.P.length p.cells.length p.ports.length 0 0 12 13 14 21) true (fun _ q => evtsS_stable q) rfl (fun β b0 hβ => by
        have e := nil_cl (k := 5) b0 (show β 21 = (none, 0) from hβ)
        simp only [dnR, SV.cl, SV.den, denL] at e ⊢
        rw [e]) (fun h hb => by
        have k11 := hb 12 (show (12 : Nat) ≤ 21 by decide)
        have k12 := hb 13 (show (13 : Nat) ≤ 21 by decide)
        have k13 := hb 14 (show (14 : Nat) ≤ 21 by decide)
        have k15 := hb 21 (show (21 : Nat) ≤ 21 by decide)
        simp [dnR, Stable, StableL, k11, k12, k13, k15]) rfl (fun n k f e => by cases e) (fun n k f e => by cases e) rfl ?_
    simp only [setH, List.cons_append, List.nil_append]
    with_reducible apply WF.range (fn' := Tryz.f106) 23
    · exact Vm.b55
    · exact Vm.b24
    · rfl
    · rfl
    · rfl
    · rfl
    · rfl
    · rfl
    · rfl
    intro E1 rec tmps after hE1 hrec hcf haft
    repeat' (first | refine Ctl.h ?_ | ((with_reducible intro hif); first | (focus (cases hif; done)) | (simp only [JH] at hif; try (exfalso; omega)) | (try (exfalso; omega))) | ((first | ((with_reducible apply J22 cA0_ok tab_ok); (· rfl)) | ((with_reducible apply J23 fol cA0_ok tab_ok); (· rfl)) | with_reducible apply J24); (· exact Vm.b121); (try kernel_rfl); (try exact Vm.b120)) | fail)
    refine At.pick (L2 := [.gone, .gone, .ro (.arr p.P.length 5 (prS p.P)), .gone, .ro (.arr p.cells.length 1 (i64S p.cells)), .gone, .ro (.arr p.ports.length 1 (i64S p.ports)), .gone, .ro (.arr l.length 5 (evtsS l)), .own 65 (.agg [.int .u64 r.seed, .int .i64 r.ahead, .int .i64 r.fuel]) true, .own 67 (.agg [.int .i64 p.id, .sl 1 2 [] 5 0 p.P.length (some p1), .sl 3 4 [] 1 0 p.cells.length (some p2), .int .i64 p.draws, .int .i64 p.seq, .sl 5 6 [] 1 0 p.ports.length (some p3)]) true, .own 82 dn0 true, prO (⟨p, [], 0⟩ : Dn).p.P, .gone, inO (⟨p, [], 0⟩ : Dn).p.ports, dnB (⟨p, [], 0⟩ : Dn) 12 24 14 25, .own 3 (.int .i64 (-1)) true, .own 43 (.nat .i64 0) true, .own 160 (.ptr 15 []) true, .own 65 (.agg [.int .u64 r.seed, .int .i64 r.ahead, .int .i64 r.fuel]) true, .own 68 (.sl 7 8 [] 5 0 l.length (some p4)) true, .gone, .raw (.deferred (some [])), .raw (.loop (rec .ready none)), i64O (⟨p, [], 0⟩ : Dn).p.cells, evO_ (⟨p, [], 0⟩ : Dn).sent]) (φ2 := [(0, .yl 23), (1, .ptr 20 []), (2, .ptr 18 []), (3, .ptr 19 []), (7, .sl 7 8 [] 5 0 l.length (some p4)), (8, .nat .i64 l.length), (9, .nat .i64 0)]) [0, 1, 2, 3, 4, 5, 6, 7, 8, 9, 10, 11, 12, 13, 14, 15, 16, 17, 18, 19, 20, 21, 22, 23, 13, 21] rfl rfl rfl ?_ rfl ?_ ?_ ?_ rfl ?_
    · exact Vm.b37
    · exact Vm.b105
    · exact Vm.b64
    · exact Vm.b105
    refine WF.loopAt (fun (z : KD) => z.k ≤ k0 ∧ foldD r (⟨p, [], 0⟩ : Dn) (l.take z.k) = z.D) (fun (z : KD) => [(0, .yl 23), (1, .ptr 20 []), (2, .ptr 18 []), (3, .ptr 19 []), (7, .sl 7 8 [] 5 0 l.length (some p4)), (8, .nat .i64 l.length), (9, .nat .i64 z.k)]) (fun (z : KD) => [.gone, .gone, .ro (.arr p.P.length 5 (prS p.P)), .gone, .ro (.arr p.cells.length 1 (i64S p.cells)), .gone, .ro (.arr p.ports.length 1 (i64S p.ports)), .gone, .ro (.arr l.length 5 (evtsS l)), .own 65 (.agg [.int .u64 r.seed, .int .i64 r.ahead, .int .i64 r.fuel]) true, .own 67 (.agg [.int .i64 p.id, .sl 1 2 [] 5 0 p.P.length (some p1), .sl 3 4 [] 1 0 p.cells.length (some p2), .int .i64 p.draws, .int .i64 p.seq, .sl 5 6 [] 1 0 p.ports.length (some p3)]) true, .own 82 dn0 true, prO z.D.p.P, .gone, inO z.D.p.ports, dnB z.D 12 24 14 25, .own 3 (.int .i64 (-1)) true, .own 43 (.nat .i64 0) true, .own 160 (.ptr 15 []) true, .own 65 (.agg [.int .u64 r.seed, .int .i64 r.ahead, .int .i64 r.fuel]) true, .own 68 (.sl 7 8 [] 5 0 l.length (some p4)) true, .gone, .raw (.deferred (some [])), .raw (.loop (rec .ready none)), i64O z.D.p.cells, evO_ z.D.sent]) (fun (z : KD) => k0 - z.k) ⟨0, (⟨p, [], 0⟩ : Dn)⟩ ⟨Nat.zero_le _, rfl⟩ ?_ ?_ rfl ?_ ?_ rfl ?_
    · exact Vm.b11
    · exact Vm.b8
    · exact Vm.b105
    · exact Vm.b105
    rintro ⟨k, D⟩ ⟨hk, hD⟩
    dsimp only at hk hD ⊢
    by_cases hkA : k < k0
    · have hkl : k < l.length := by omega
      have hFI := fi_all hE0 hok hB k (by omega) (fun i hi => hAll i (by omega))
      rw [hD] at hFI
      obtain ⟨e, he⟩ : ∃ e, l.getD k ⟨0, 0, 0, 0, 0⟩ = e := ⟨_, rfl⟩
      have hT : takesB p e = true := by rw [← he]; exact badAt_takes (hB k hkl)
      have hGk := hFI.hg (procE_zero hE0).1 hok hT
      have hus := hFI.us
      have hsu := hFI.su
      have hrf := of_decide_eq_true (show decide _ = true from (procE_zero hE0).1)
      have hmul : r.fuel * (k : Int) ≤ 4096 * 200 := Int.le_trans (Int.mul_le_mul_of_nonneg_right hrf.2.2.2 (by omega)) (by omega)
      have hsl : D.sent.length ≤ 1000000 := by omega
      have hul : D.used ≤ 1000000000 := by omega
      have h0 : hE r D.p e = 0 := by
        have := hAll k hkA
        rw [hD, he] at this
        exact this
      have hD' : foldD r (⟨p, [], 0⟩ : Dn) (l.take (k + 1)) = hS r D e := by rw [take_snoc ⟨0, 0, 0, 0, 0⟩ hkl, foldD_snoc, hD, he]

      repeat' (first | refine Ctl.h ?_ | ((with_reducible intro hif); first | (focus (cases hif; done)) | (simp only [JH] at hif; try (exfalso; omega)) | (try (exfalso; omega))) | ((first | ((with_reducible apply J22 cAG_ok tab_ok); (· rfl)) | ((with_reducible apply J23 fol cAG_ok tab_ok); (· rfl)) | with_reducible apply J24); (· exact Vm.b122); (try kernel_rfl); (try exact Vm.b120)) | fail)
      with_reducible apply WF.split 6 1
      · rfl
      with_reducible apply At.run cAG_ok tab_ok
      · rfl
      · rfl
      · rfl
      · exact Vm.b112
      · exact Vm.b113
      with_reducible apply At.yield (gr := _)
      · rfl
      · rfl
      · rfl
      · rfl
      · rfl
      · rfl
      · exact Vm.b112
      · exact Vm.b114
      · exact Vm.b112
      · exact Vm.b113
      · exact Vm.b112
      · exact Vm.b113
      · exact Vm.b114
      · exact hrec
      · exact hcf
      · rfl
      · rfl
      · rfl
      intro lb E2 next hE2 hnext
      repeat' (first | refine Ctl.h ?_ | ((with_reducible intro hif); first | (focus (cases hif; done)) | (simp only [JH] at hif; try (exfalso; omega)) | (try (exfalso; omega))) | ((first | ((with_reducible apply J22 cAG_ok tab_ok); (· rfl)) | ((with_reducible apply J23 fol cAG_ok tab_ok); (· rfl)) | with_reducible apply J24); (· exact Vm.b122); (try kernel_rfl); (try exact Vm.b120)) | fail)
      with_reducible apply At.begins hrec
      · rfl
      with_reducible refine At.code ?_
      repeat' (first | refine Ctl.h ?_ | ((with_reducible intro hif); first | (focus (cases hif; done)) | (simp only [JH] at hif; try (exfalso; omega)) | (try (exfalso; omega))) | ((first | ((with_reducible apply J22 cAG_ok tab_ok); (· rfl)) | ((with_reducible apply J23 fol cAG_ok tab_ok); (· rfl)) | with_reducible apply J24); (· exact Vm.b122); (try kernel_rfl); (try exact Vm.b120)) | fail)
      with_reducible apply At.roundNormal
      · exact Vm.b114
      apply hnext
      with_reducible apply At.runEnd cAG_ok tab_ok
      · rfl
      · rfl
      · rfl
      · exact Vm.b112
      · exact Vm.b113
      repeat' (first | refine Ctl.h ?_ | ((with_reducible intro hif); first | (focus (cases hif; done)) | (simp only [JH] at hif; try (exfalso; omega)) | (try (exfalso; omega))) | ((first | ((with_reducible apply J22 cAG_ok tab_ok); (· rfl)) | ((with_reducible apply J23 fol cAG_ok tab_ok); (· rfl)) | with_reducible apply J24); (· exact Vm.b122); (try kernel_rfl); (try exact Vm.b120)) | fail)
      refine At.nextPick [0, 1, 2, 3, 4, 5, 6, 7, 8, 9, 10, 11, 12, 13, 14, 15, 16, 17, 18, 19, 20, 21, 22, 23, 27, 28] ⟨k + 1, hS r D e⟩ ?_ rfl rfl rfl ?_ rfl ?_ ?_ ?_ rfl
      · dsimp only; exact ⟨⟨by omega, hD'⟩, by omega⟩
      · exact Vm.b37
      · exact Vm.b105
      · exact Vm.b64
      · exact Vm.b105
    · obtain rfl : k = k0 := by omega
      rcases hc0 with ⟨rfl, rfl, rfl⟩ | ⟨hkl, hk1, rfl, rfl⟩
      · rw [List.take_length] at hD

        repeat' (first | refine Ctl.h ?_ | ((with_reducible intro hif); first | (focus (cases hif; done)) | (simp only [JH] at hif; try (exfalso; omega)) | (try (exfalso; omega))) | ((first | ((with_reducible apply J22 cA0_ok tab_ok); (· rfl)) | ((with_reducible apply J23 fol cA0_ok tab_ok); (· rfl)) | with_reducible apply J24); (· exact Vm.b121); (try kernel_rfl); (try exact Vm.b120)) | fail)
        with_reducible apply At.itNormal .ready
        · rfl
        · rfl
        · intro h; cases h
        apply haft
        intro w1 M1 D1 hA
        dsimp only
        repeat' (first | refine Ctl.h ?_ | ((with_reducible intro hif); first | (focus (cases hif; done)) | (simp only [JH] at hif; try (exfalso; omega)) | (try (exfalso; omega))) | ((first | ((with_reducible apply J22 cA0_ok tab_ok); (· rfl)) | ((with_reducible apply J23 fol cA0_ok tab_ok); (· rfl)) | with_reducible apply J24); (· exact Vm.b121); (try kernel_rfl); (try exact Vm.b120)) | fail)
        apply At.endsPick [0, 1, 2, 3, 4, 5, 6, 7, 8, 12, 24, 14, 25] tab_ok (fn := Tryz.f24) (rs := [.cell 6 82, .tmp 7, .tmp 8]) hA hro (Nat.le_of_ble_eq_true rfl) rfl
        · exact Vm.b18
        · exact Vm.b24
        · rfl
        · rfl
        · rfl
        · (repeat' (first | exact trivial | exact .inl rfl | exact .inr (.same _) | exact .inr .loose | exact .inr (.arr (by assumption)) | apply And.intro | (rw [hD]; exact .inr (.same _))))
        · rfl
        · exact Vm.b105
        · exact Vm.b10
        · rw [hD]; exact fun β => rfl
        · exact Vm.b105
      · skip
        have hFI := fi_all hE0 hok hB k (by omega) (fun i hi => hAll i (by omega))
        rw [hD] at hFI
        obtain ⟨e, he⟩ : ∃ e, l.getD k ⟨0, 0, 0, 0, 0⟩ = e := ⟨_, rfl⟩
        have hT : takesB p e = true := by rw [← he]; exact badAt_takes (hB k hkl)
        have hGk := hFI.hg (procE_zero hE0).1 hok hT
        have hus := hFI.us
        have hsu := hFI.su
        have hrf := of_decide_eq_true (show decide _ = true from (procE_zero hE0).1)
        have hmul : r.fuel * (k : Int) ≤ 4096 * 200 := Int.le_trans (Int.mul_le_mul_of_nonneg_right hrf.2.2.2 (by omega)) (by omega)
        have hsl : D.sent.length ≤ 1000000 := by omega
        have hul : D.used ≤ 1000000000 := by omega
        rw [hD, he] at hk1

        repeat' (first | refine Ctl.h ?_ | ((with_reducible intro hif); first | (focus (cases hif; done)) | (simp only [JH] at hif; try (exfalso; omega)) | (try (exfalso; omega))) | ((first | ((with_reducible apply J22 cAB_ok tab_ok); (· rfl)) | ((with_reducible apply J23 fol cAB_ok tab_ok); (· rfl)) | with_reducible apply J24); (· exact Vm.b123); (try kernel_rfl); (try exact Vm.b120)) | fail)
        with_reducible apply WF.split 6 1
        · rfl
        with_reducible apply At.run cAB_ok tab_ok
        · rfl
        · rfl
        · rfl
        · exact Vm.b115
        · exact Vm.b113
        with_reducible apply At.yield (gr := _)
        · rfl
        · rfl
        · rfl
        · rfl
        · rfl
        · rfl
        · exact Vm.b115
        · exact Vm.b116
        · exact Vm.b115
        · exact Vm.b113
        · exact Vm.b115
        · exact Vm.b113
        · exact Vm.b116
        · exact hrec
        · exact hcf
        · rfl
        · rfl
        · rfl
        intro lb E2 next hE2 hnext
        repeat' (first | refine Ctl.h ?_ | ((with_reducible intro hif); first | (focus (cases hif; done)) | (simp only [JH] at hif; try (exfalso; omega)) | (try (exfalso; omega))) | ((first | ((with_reducible apply J22 cAB_ok tab_ok); (· rfl)) | ((with_reducible apply J23 fol cAB_ok tab_ok); (· rfl)) | with_reducible apply J24); (· exact Vm.b123); (try kernel_rfl); (try exact Vm.b120)) | fail)
        with_reducible apply At.begins hrec
        · rfl
        with_reducible refine At.code ?_
        repeat' (first | refine Ctl.h ?_ | ((with_reducible intro hif); first | (focus (cases hif; done)) | (simp only [JH] at hif; try (exfalso; omega)) | (try (exfalso; omega))) | ((first | ((with_reducible apply J22 cAB_ok tab_ok); (· rfl)) | ((with_reducible apply J23 fol cAB_ok tab_ok); (· rfl)) | with_reducible apply J24); (· exact Vm.b123); (try kernel_rfl); (try exact Vm.b120)) | fail)
        with_reducible apply At.roundExit
        · exact Vm.b116
        apply hnext
        with_reducible apply At.runEnd cAB_ok tab_ok
        · rfl
        · rfl
        · rfl
        · exact Vm.b115
        · exact Vm.b113
        repeat' (first | refine Ctl.h ?_ | ((with_reducible intro hif); first | (focus (cases hif; done)) | (simp only [JH] at hif; try (exfalso; omega)) | (try (exfalso; omega))) | ((first | ((with_reducible apply J22 cAB_ok tab_ok); (· rfl)) | ((with_reducible apply J23 fol cAB_ok tab_ok); (· rfl)) | with_reducible apply J24); (· exact Vm.b123); (try kernel_rfl); (try exact Vm.b120)) | fail)
        with_reducible apply At.itRet .done
        · rfl
        · rfl
        · intro h; cases h
        apply haft
        intro w1 M1 D1 hA
        dsimp only
        repeat' (first | refine Ctl.h ?_ | ((with_reducible intro hif); first | (focus (cases hif; done)) | (simp only [JH] at hif; try (exfalso; omega)) | (try (exfalso; omega))) | ((first | ((with_reducible apply J22 cAB_ok tab_ok); (· rfl)) | ((with_reducible apply J23 fol cAB_ok tab_ok); (· rfl)) | with_reducible apply J24); (· (simp only [push_cast, ↓JP, Nat.reduceAdd, Nat.reduceEqDiff, Nat.reduceLT, Nat.reduceMul, Nat.reduceLeDiff, reduceCtorEq, reduceIte, ↓JK, JE, prc_eta, cAB, sPCheck, sTakes, sPCopy, sKCmp, rHs, pcS, prO, i64O, inO, evm_ev, rHaB, rHaG, donP, dnI, isIns_insS, isI_int, isEvt_evtS, evtOf_evtS, ls_evtsS, ls_evtsS', nodupN, memN, inR, inN, ↓evtS_sz, ↓evtS_ag, ↓evtS_pl, nav_evt, nav_evt0, nav_evt1, nav_evt2, rul_eta, ls_zero, JB, dnS, dnR, dnB, evO_, dn0, evtsS, dnn_eta, hk1]; rfl)); (try kernel_rfl); (try exact Vm.b120)) | fail)
        apply At.endsRet tab_ok (fn := Tryz.f24) (rs := [.cell 6 82, .tmp 7, .tmp 8]) hA hro (Nat.le_of_ble_eq_true rfl) rfl
        · exact Vm.b18
        · exact Vm.b7
        · exact Vm.b8
        · rfl
        · exact Vm.b105
        · exact Vm.b10
        · rw [hD, he]; exact fun β => rfl
        · exact Vm.b105
theorem all_fail (r : Rul) (p : Prc) (l : List Evt) (p1 p2 p3 p4 : Nat) (hok : ∀ x ∈ p.P, x.ok) (hn : p.P.length ≤ 1000000) (hc : p.cells.length ≤ 1000000) (hpo : p.ports.length ≤ 1000000) (hll : l.length ≤ 200) (hE0 : procE r p = 0) (hB : ∀ q, q < l.length → badAt p l q = 0) (k0 : Nat) (hk0 : k0 < l.length) (hAll : AllK r ⟨p, [], 0⟩ l k0) (hk1 : hE r (foldD r ⟨p, [], 0⟩ (l.take k0)).p (l.getD k0 ⟨0, 0, 0, 0, 0⟩) ≠ 0) : LitOk Tryz.prog 24 [.agg [.int .u64 r.seed, .int .i64 r.ahead, .int .i64 r.fuel], .agg [.int .i64 p.id, .sl 1 2 [] 5 0 p.P.length (some p1), .sl 3 4 [] 1 0 p.cells.length (some p2), .int .i64 p.draws, .int .i64 p.seq, .sl 5 6 [] 1 0 p.ports.length (some p3)], .sl 7 8 [] 5 0 l.length (some p4)]
    [.gone, .gone, .ro (.arr p.P.length 5 (prS p.P)), .gone, .ro (.arr p.cells.length 1 (i64S p.cells)), .gone, .ro (.arr p.ports.length 1 (i64S p.ports)), .gone, .ro (.arr l.length 5 (evtsS l))]
    (.tup [dn0, .nat .i64 k0, .int .i64 (hE r (foldD r ⟨p, [], 0⟩ (l.take k0)).p (l.getD k0 ⟨0, 0, 0, 0, 0⟩))]) [.gone] :=
  all_gen r p l p1 p2 p3 p4 hok hn hc hpo hll hE0 hB k0 (by omega) hAll _ _ (.inr ⟨hk0, hk1, rfl, rfl⟩)
theorem all_ok (r : Rul) (p : Prc) (l : List Evt) (p1 p2 p3 p4 : Nat) (hok : ∀ x ∈ p.P, x.ok) (hn : p.P.length ≤ 1000000) (hc : p.cells.length ≤ 1000000) (hpo : p.ports.length ≤ 1000000) (hll : l.length ≤ 200) (hE0 : procE r p = 0) (hB : ∀ q, q < l.length → badAt p l q = 0) (hAll : AllK r ⟨p, [], 0⟩ l l.length) : LitOk Tryz.prog 24 [.agg [.int .u64 r.seed, .int .i64 r.ahead, .int .i64 r.fuel], .agg [.int .i64 p.id, .sl 1 2 [] 5 0 p.P.length (some p1), .sl 3 4 [] 1 0 p.cells.length (some p2), .int .i64 p.draws, .int .i64 p.seq, .sl 5 6 [] 1 0 p.ports.length (some p3)], .sl 7 8 [] 5 0 l.length (some p4)]
    [.gone, .gone, .ro (.arr p.P.length 5 (prS p.P)), .gone, .ro (.arr p.cells.length 1 (i64S p.cells)), .gone, .ro (.arr p.ports.length 1 (i64S p.ports)), .gone, .ro (.arr l.length 5 (evtsS l))]
    (.tup [dnS (foldD r ⟨p, [], 0⟩ l) 9 10 11 12, .int .i64 (-1), .int .i64 0]) [.gone, .gone, .gone, .gone, .gone, .gone, .gone, .gone, .gone, prO (foldD r ⟨p, [], 0⟩ l).p.P, i64O (foldD r ⟨p, [], 0⟩ l).p.cells, inO (foldD r ⟨p, [], 0⟩ l).p.ports, evO_ (foldD r ⟨p, [], 0⟩ l).sent] :=
  all_gen r p l p1 p2 p3 p4 hok hn hc hpo hll hE0 hB l.length (Nat.le_refl _) hAll _ _ (.inl ⟨rfl, rfl, rfl⟩)
end Go.Proofs.YtjliakjbdcplcaaGreat.Vm
end

section
namespace Go.Proofs.YtjliakjbdcplcaaGreat.Vm
open Go.RowKit
attribute [local push_cast] runR opG gtmp gval gus opX tmpsOf tm tmO tmP restr look look2 tab tys zs ets eqB eqBL allB numOf ieq Int.cast_ofNat_Int Int.ofNat_zero beq_true beq_false frameOf ev evL ofV opV loadV noW pushF wrsL setH allBorn allGone HB.born HB.isGone HB.val SV.plain dstOk hp nav fitsT SV.size sizeL SV.isAgg TK.size TK.agg bin binE binN binI arN arI cmpN cmpI keq kn narrow callV storeV setp fillV buildV buildSliceV makeV sliceV appendV appendFV slice3V copyV List.isEmpty_nil srcV evO asN ite_t ite_f ite_bool ite_int ite_nat maxV v_beq v_ble v_blt cond_true cond_false List.getElem?_cons_zero List.getElem?_cons_succ List.getD_cons_zero List.getD_cons_succ List.getD_nil List.length_cons List.length_nil List.take_succ_cons List.take_zero List.set_cons_zero List.set_cons_succ List.cons_append List.nil_append List.append_assoc List.replicate_succ List.replicate_zero Nat.zero_add Nat.add_zero decide_true decide_false Bool.true_and Bool.and_true Bool.false_and Bool.and_false Bool.true_or Bool.or_true Bool.false_or Bool.or_false beq_self_eq_true Bool.or_self Nat.lt_irrefl Nat.not_lt_zero Nat.le_refl Option.getD_some Option.getD_none BEq.rfl Bool.not_true Bool.not_false Bool.cond_true_left Bool.cond_false_right prS sndsS i64S nav_ins nav_ins0 nav_ins1 nav_ins2 nav_ins3 nav_ins4 nav_snd nav_snd0 nav_snd1 nav_snd2 isIns_insS insOf_insS isSnd_sndS sndOf_sndS isI_int isI_nat iOf JM JE JB sMd18N sMd18S sMd14 inR inN u8S esS esA
set_option linter.unusedVariables false
set_option linter.unusedSimpArgs false
set_option maxRecDepth 100000
set_option maxHeartbeats 4000000
theorem less_oneE {t : Nat} {σ : Nat → Nat} (x : Evt) {g : Nat → SV} {xv z : SV} (hg : g = fun q => [xv].getD q z) (hx : ∀ β, xv.cl β = x.cells) :
    Less (.own t (.arr 1 5 g) false) ((HB.own t (.arr 1 5 (evtsS [x])) false).ren σ) := by
  have e : (HB.own t (.arr 1 5 (evtsS [x])) false).ren σ = .own t (.arr 1 5 (evtsS [x])) false := by
    simp only [HB.ren, SV.ren]; rw [evtsS_ren]
  rw [e]
  refine .val (fun β => arrCl fun q hq => ?_) (fun n1 k1 f1 e => by injection e with e1 e2 e3; subst e1 e2; exact ⟨_, rfl⟩) (fun n1 k1 f1 e => by injection e with e1 e2 e3; subst e1 e2; exact ⟨_, rfl⟩)
  subst hg
  obtain rfl : q = 0 := by omega
  show xv.cl β = _
  rw [hx, show evtsS [x] 0 = evtS x from rfl, isEvt_cl (isEvt_evtS _), evtOf_evtS]
theorem less_appI {t n : Nat} {σ : Nat → Nat} (S : List Int) (x : Int) (hn : S.length = n) {g : Nat → SV} {xv z : SV} (hg : g = fun q => SV.ite (decide (q < n)) (i64S S q) ([xv].getD (q - n) z)) (hx : ∀ β, xv.cl β = [.int .i64 x]) :
    Less (.own t (.arr (n + 1) 1 g) false) ((HB.own t (.arr (n + 1) 1 (i64S (S ++ [x]))) false).ren σ) := by
  have e : (HB.own t (.arr (n + 1) 1 (i64S (S ++ [x]))) false).ren σ = .own t (.arr (n + 1) 1 (i64S (S ++ [x]))) false := rfl
  rw [e]
  refine .val (fun β => arrCl fun q hq => ?_) (fun n1 k1 f1 e => by injection e with e1 e2 e3; subst e1 e2; exact ⟨_, rfl⟩) (fun n1 k1 f1 e => by injection e with e1 e2 e3; subst e1 e2; exact ⟨_, rfl⟩)
  subst hg hn
  dsimp only
  rw [ite_eq]
  by_cases h : q < S.length
  · simp only [h, decide_true, cond_true]
    unfold i64S
    rw [List.getD_eq_getElem?_getD, List.getD_eq_getElem?_getD, List.getElem?_append_left h]
  · have hq' : q = S.length := by omega
    subst hq'
    simp only [h, decide_false, cond_false, Nat.sub_self, List.getD_cons_zero, hx]
    unfold i64S
    rw [List.getD_eq_getElem?_getD, List.getElem?_append_right (Nat.le_refl _), Nat.sub_self]; rfl
def cM28N : FuncId → Option Spec := look2 [(72, sMd18N), (73, sMd14)]
theorem cM28N_ok : ∀ f S, cM28N f = some S → CallOk Tryz.prog f S := allOk_spec ⟨sMd18N_ok, sMd14_ok, trivial⟩
def cM28S : FuncId → Option Spec := look2 [(72, sMd18S), (73, sMd14)]
theorem cM28S_ok : ∀ f S, cM28S f = some S → CallOk Tryz.prog f S := allOk_spec ⟨sMd18S_ok, sMd14_ok, trivial⟩
theorem made28 (xs : List Ins) (a d sn seed id ahead fuel sq : Int) (rg : Nat → Int) (cs ps : List Int) (es : List ESm) (p1 p2 p3 p4 : Nat) (hx : ∀ x ∈ xs, x.ok) (hcap : max xs.length p1 ≤ 9223372036854775807) (hcp : cs.length ≤ p2) (ha : 0 ≤ a ∧ a ≤ 255) (hd : 0 ≤ d ∧ d ≤ 4294967295) (hs : 0 ≤ sn ∧ sn ≤ 255) (hid : 0 ≤ id ∧ id ≤ 255) (hah : 0 ≤ ahead ∧ ahead ≤ 255) (hf : 0 ≤ fuel ∧ fuel ≤ 65535) (hsq : 0 ≤ sq ∧ sq ≤ 65535) (hps : ∀ q, 0 ≤ ps.getD q 0 ∧ ps.getD q 0 ≤ 255) (hpl : ps.length ≤ p3) (hp3 : p3 ≤ 9223372036854775807) (hes : ∀ e ∈ es, e.ok) (hel : es.length ≤ p4) (hp4 : p4 ≤ 9223372036854775807) : LitOk Tryz.prog 23 [.agg [.sl 1 2 [] 5 0 xs.length (some p1), .agg [.int .u8 a, .arr 8 1 (fun q => .int .i64 (rg q)), .sl 3 4 [] 1 0 cs.length (some p2), .int .u32 d, .int .u8 sn], .int .u64 seed, .int .u8 id, .int .u8 ahead, .int .u16 fuel, .int .u16 sq, .sl 5 6 [] 1 0 ps.length (some p3), .sl 7 8 [] 3 0 es.length (some p4)]]
    [.gone, .gone, .ro (.arr xs.length 5 (prS xs)), .gone, .ro (.arr cs.length 1 (i64S cs)), .gone, .ro (.arr ps.length 1 (u8S ps)), .gone, .ro (.arr es.length 3 (esS es))]
    (.tup [(.agg [.int .u64 seed, .int .i64 (1 + ahead.tmod 5), .int .i64 (fuel.tmod 300)]), pcS (⟨1 + id.tmod 16, made14 xs, cs.take 12, d, sq, mPorts (ps.take 16)⟩ : Prc) 9 10 11, .sl 12 12 [] 5 0 (mEv (1 + id.tmod 16) (es.take 10)).2.length none])
    [.gone, .gone, .gone, .gone, .gone, .gone, .gone, .gone, .gone, prO (made14 xs), i64O (cs.take 12), inO (mPorts (ps.take 16)), .own 29 (.arr (mEv (1 + id.tmod 16) (es.take 10)).2.length 5 (evtsS (mEv (1 + id.tmod 16) (es.take 10)).2)) false] := by
  have y0 := Int.tmod_nonneg 16 hid.1
  have y1 := Int.tmod_lt_of_pos id (show (0 : Int) < 16 by decide)
  have y2 := Int.tmod_nonneg 5 hah.1
  have y3 := Int.tmod_lt_of_pos ahead (show (0 : Int) < 5 by decide)
  have y4 := Int.tmod_nonneg 300 hf.1
  have y5 := Int.tmod_lt_of_pos fuel (show (0 : Int) < 300 by decide)
  cases hm : (mSnd (sn.tmod 21).toNat).isEmpty

  refine litOkM (fn := Tryz.f23) 9 130 0 rfl rfl rfl rfl rfl (by simp only [StableL, Stable, hp, esS, esA, u8S, pcS, i64S, prS, insS, sndsS, sndS, evtsS, evtS, prO, i64O, inO, evO_, HB.stable]; simp [HB.born]) rfl fun w0 M E hro => ?_
  repeat' (first | refine Ctl.h ?_ | ((with_reducible intro hif); first | (focus (cases hif; done)) | (simp only [JH] at hif; try (exfalso; omega)) | (try (exfalso; omega))) | ((first | ((with_reducible apply J22 cM28S_ok tab_ok); (· rfl)) | ((with_reducible apply J23 fol cM28S_ok tab_ok); (· rfl)) | with_reducible apply J24); (· (simp only [push_cast, ↓JP, Nat.reduceAdd, Nat.reduceEqDiff, Nat.reduceLT, Nat.reduceMul, Nat.reduceLeDiff, reduceCtorEq, reduceIte, ↓JK, cM28S, Nat.sub_zero, hm]; rfl)); (try kernel_rfl); (try exact Vm.b124)) | fail)
  refine At.pick (L2 := [.gone, .gone, .ro (.arr xs.length 5 (prS xs)), .gone, .ro (.arr cs.length 1 (i64S cs)), .gone, .ro (.arr ps.length 1 (u8S ps)), .gone, .ro (.arr es.length 3 (esS es)), .own 78 (.agg [.sl 1 2 [] 5 0 xs.length (some p1), .agg [.int .u8 a, .arr 8 1 (fun q => .int .i64 (rg q)), .sl 3 4 [] 1 0 cs.length (some p2), .int .u32 d, .int .u8 sn], .int .u64 seed, .int .u8 id, .int .u8 ahead, .int .u16 fuel, .int .u16 sq, .sl 5 6 [] 1 0 ps.length (some p3), .sl 7 8 [] 3 0 es.length (some p4)]) true, .own 65 (.agg [.nat .u64 0, .nat .i64 0, .nat .i64 0]) true, .own 67 (.agg [.nat .i64 0, .sl 0 0 [] 0 0 0 (some 0), .sl 0 0 [] 0 0 0 (some 0), .nat .i64 0, .nat .i64 0, .sl 0 0 [] 0 0 0 (some 0)]) true, .own 65 (.agg [.int .u64 seed, .int .i64 (1 + ahead.tmod 5), .int .i64 (fuel.tmod 300)]) true, .own 2 (.arr (cs.take 12).length 1 (i64S (cs.take 12))) false, .own 38 (.arr (made14 xs).length 5 (prS (made14 xs))) false, .own 67 (.agg [.int .i64 (1 + id.tmod 16), .sl 14 14 [] 5 0 (made14 xs).length none, .sl 13 13 [] 1 0 (cs.take 12).length none, .int .i64 d, .int .i64 sq, .sl 0 0 [] 0 0 0 (some 0)]) true, .gone]) (φ2 := [(1, .ptr 9 []), (2, .ptr 10 []), (3, .ptr 11 []), (5, .ptr 12 []), (7, .ptr 15 []), (52, .sl 16 6 [] 1 0 (min ps.length 16) none), (53, .nat .i64 (min ps.length 16)), (54, .nat .i64 0)]) [0, 1, 2, 3, 4, 5, 6, 7, 8, 9, 10, 11, 12, 13, 16, 17, 18] rfl rfl rfl ?_ rfl ?_ ?_ ?_ rfl ?_
  · exact Vm.b37
  · exact Vm.b117
  · exact Vm.b64
  · exact Vm.b117
  rotate_left 1

  refine litOkM (fn := Tryz.f23) 9 130 0 rfl rfl rfl rfl rfl (by simp only [StableL, Stable, hp, esS, esA, u8S, pcS, i64S, prS, insS, sndsS, sndS, evtsS, evtS, prO, i64O, inO, evO_, HB.stable]; simp [HB.born]) rfl fun w0 M E hro => ?_
  repeat' (first | refine Ctl.h ?_ | ((with_reducible intro hif); first | (focus (cases hif; done)) | (simp only [JH] at hif; try (exfalso; omega)) | (try (exfalso; omega))) | ((first | ((with_reducible apply J22 cM28N_ok tab_ok); (· rfl)) | ((with_reducible apply J23 fol cM28N_ok tab_ok); (· rfl)) | with_reducible apply J24); (· exact Vm.b125); (try kernel_rfl); (try exact Vm.b124)) | fail)
  refine At.pick (L2 := [.gone, .gone, .ro (.arr xs.length 5 (prS xs)), .gone, .ro (.arr cs.length 1 (i64S cs)), .gone, .ro (.arr ps.length 1 (u8S ps)), .gone, .ro (.arr es.length 3 (esS es)), .own 78 (.agg [.sl 1 2 [] 5 0 xs.length (some p1), .agg [.int .u8 a, .arr 8 1 (fun q => .int .i64 (rg q)), .sl 3 4 [] 1 0 cs.length (some p2), .int .u32 d, .int .u8 sn], .int .u64 seed, .int .u8 id, .int .u8 ahead, .int .u16 fuel, .int .u16 sq, .sl 5 6 [] 1 0 ps.length (some p3), .sl 7 8 [] 3 0 es.length (some p4)]) true, .own 65 (.agg [.nat .u64 0, .nat .i64 0, .nat .i64 0]) true, .own 67 (.agg [.nat .i64 0, .sl 0 0 [] 0 0 0 (some 0), .sl 0 0 [] 0 0 0 (some 0), .nat .i64 0, .nat .i64 0, .sl 0 0 [] 0 0 0 (some 0)]) true, .own 65 (.agg [.int .u64 seed, .int .i64 (1 + ahead.tmod 5), .int .i64 (fuel.tmod 300)]) true, .own 2 (.arr (cs.take 12).length 1 (i64S (cs.take 12))) false, .own 38 (.arr (made14 xs).length 5 (prS (made14 xs))) false, .own 67 (.agg [.int .i64 (1 + id.tmod 16), .sl 14 14 [] 5 0 (made14 xs).length none, .sl 13 13 [] 1 0 (cs.take 12).length none, .int .i64 d, .int .i64 sq, .sl 0 0 [] 0 0 0 (some 0)]) true, .gone]) (φ2 := [(1, .ptr 9 []), (2, .ptr 10 []), (3, .ptr 11 []), (5, .ptr 12 []), (7, .ptr 15 []), (52, .sl 16 6 [] 1 0 (min ps.length 16) none), (53, .nat .i64 (min ps.length 16)), (54, .nat .i64 0)]) [0, 1, 2, 3, 4, 5, 6, 7, 8, 9, 10, 11, 12, 13, 15, 16, 17] rfl rfl rfl ?_ rfl ?_ ?_ ?_ rfl ?_
  · exact Vm.b37
  · exact Vm.b117
  · exact Vm.b64
  · exact Vm.b117

  all_goals
    refine At.nilIn 3 1 (i64S []) 15 67 (.agg [.int .i64 (1 + id.tmod 16), .sl 14 14 [] 5 0 (made14 xs).length none, .sl 13 13 [] 1 0 (cs.take 12).length none, .int .i64 d, .int .i64 sq, .sl 0 0 [] 0 0 0 (some 0)]) (.agg [.int .i64 (1 + id.tmod 16), .sl 14 14 [] 5 0 (made14 xs).length none, .sl 13 13 [] 1 0 (cs.take 12).length none, .int .i64 d, .int .i64 sq, .sl 17 17 [] 1 0 0 none]) true (fun _ q => i64S_stable q) rfl (fun β b0 hβ => by
        have e := nil_cl (k := 1) b0 (show β 17 = (none, 0) from hβ)
        simp only [SV.cl, SV.den, denL] at e ⊢
        rw [e]) (fun h hb => by
        have k13 := hb 13 (show (13 : Nat) ≤ 17 by decide)
        have k14 := hb 14 (show (14 : Nat) ≤ 17 by decide)
        have k17 := hb 17 (show (17 : Nat) ≤ 17 by decide)
        simp [Stable, StableL, k13, k14, k17]) rfl (fun n k f e => by cases e) (fun n k f e => by cases e) rfl ?_
    simp only [setH, List.cons_append, List.nil_append]
    have hz : Less (.own 3 (.arr 0 1 (i64S [])) false) (.own 3 (.arr 0 1 (i64S (mPorts (ps.take 0)))) false) := .same _
    refine WF.loopAt (fun (j : Nat) => j ≤ min ps.length 16) (fun (j : Nat) => [(1, .ptr 9 []), (2, .ptr 10 []), (3, .ptr 11 []), (5, .ptr 12 []), (7, .ptr 15 []), (52, .sl 16 6 [] 1 0 (min ps.length 16) none), (53, .nat .i64 (min ps.length 16)), (54, .nat .i64 j)]) (fun (j : Nat) => [.gone, .gone, .ro (.arr xs.length 5 (prS xs)), .gone, .ro (.arr cs.length 1 (i64S cs)), .gone, .ro (.arr ps.length 1 (u8S ps)), .gone, .ro (.arr es.length 3 (esS es)), .own 78 (.agg [.sl 1 2 [] 5 0 xs.length (some p1), .agg [.int .u8 a, .arr 8 1 (fun q => .int .i64 (rg q)), .sl 3 4 [] 1 0 cs.length (some p2), .int .u32 d, .int .u8 sn], .int .u64 seed, .int .u8 id, .int .u8 ahead, .int .u16 fuel, .int .u16 sq, .sl 5 6 [] 1 0 ps.length (some p3), .sl 7 8 [] 3 0 es.length (some p4)]) true, .own 65 (.agg [.nat .u64 0, .nat .i64 0, .nat .i64 0]) true, .own 67 (.agg [.nat .i64 0, .sl 0 0 [] 0 0 0 (some 0), .sl 0 0 [] 0 0 0 (some 0), .nat .i64 0, .nat .i64 0, .sl 0 0 [] 0 0 0 (some 0)]) true, .own 65 (.agg [.int .u64 seed, .int .i64 (1 + ahead.tmod 5), .int .i64 (fuel.tmod 300)]) true, .own 2 (.arr (cs.take 12).length 1 (i64S (cs.take 12))) false, .own 38 (.arr (made14 xs).length 5 (prS (made14 xs))) false, .own 67 (.agg [.int .i64 (1 + id.tmod 16), .sl 14 14 [] 5 0 (made14 xs).length none, .sl 13 13 [] 1 0 (cs.take 12).length none, .int .i64 d, .int .i64 sq, .sl 17 17 [] 1 0 j none]) true, .gone, .own 3 (.arr j 1 (i64S (mPorts (ps.take j)))) false]) (fun (j : Nat) => min ps.length 16 - j) 0 (Nat.zero_le _) ?_ ?_ rfl ?_ ?_ rfl ?_
    · exact Vm.b11
    · exact Vm.b8
    · exact Vm.b117
    · exact Vm.b117
    intro j hj
    by_cases hjl : j < min ps.length 16
    · have hjp : j < ps.length := by omega
      have hpj := hps j
      have w0 := Int.tmod_nonneg 17 hpj.1
      have w1 := Int.tmod_lt_of_pos (ps.getD j 0) (show (0 : Int) < 17 by decide)
      have hT : mPorts (ps.take (j + 1)) = mPorts (ps.take j) ++ [(ps.getD j 0).tmod 17] := by rw [take_snoc 0 hjp]; simp [mPorts]
      have hTl : (mPorts (ps.take j)).length = j := by simp [mPorts]; omega
      repeat' (first | refine Ctl.h ?_ | ((with_reducible intro hif); first | (focus (cases hif; done)) | (simp only [JH] at hif; try (exfalso; omega)) | (try (exfalso; omega))) | ((first | ((with_reducible apply J22 cM28N_ok tab_ok); (· rfl)) | ((with_reducible apply J23 fol cM28N_ok tab_ok); (· rfl)) | with_reducible apply J24); (· (simp only [push_cast, ↓JP, Nat.reduceAdd, Nat.reduceEqDiff, Nat.reduceLT, Nat.reduceMul, Nat.reduceLeDiff, reduceCtorEq, reduceIte, ↓JK, cM28N, Nat.sub_zero, hm, hjl]; rfl)); (try kernel_rfl); (try exact Vm.b124)) | fail)
      refine At.nextPick [0, 1, 2, 3, 4, 5, 6, 7, 8, 9, 10, 11, 12, 13, 14, 15, 16, 19] (j + 1) ?_ rfl rfl rfl ?_ rfl ?_ ?_ ?_ rfl
      · omega
      · (repeat' (first | exact trivial | exact .inl rfl | exact .inr (.same _) | exact .inr .loose | exact .inr (.arr (by assumption)) | apply And.intro | (rw [hT]; exact .inr (less_appI _ _ hTl rfl (fun β => rfl)))))
      · exact Vm.b117
      · exact Vm.b64
      · exact Vm.b117
    · obtain rfl : j = min ps.length 16 := by omega
      have hpt : ps.take (min ps.length 16) = ps.take 16 := by
        rcases Nat.le_total ps.length 16 with h | h
        · exact Vm.b106
        · rw [Nat.min_eq_right h]
      rw [hpt]
      have hPl : (mPorts (ps.take 16)).length = min ps.length 16 := by simp [mPorts, Nat.min_comm]
      repeat' (first | refine Ctl.h ?_ | ((with_reducible intro hif); first | (focus (cases hif; done)) | (simp only [JH] at hif; try (exfalso; omega)) | (try (exfalso; omega))) | ((first | ((with_reducible apply J22 cM28N_ok tab_ok); (· rfl)) | ((with_reducible apply J23 fol cM28N_ok tab_ok); (· rfl)) | with_reducible apply J24); (· exact Vm.b125); (try kernel_rfl); (try exact Vm.b124)) | fail)
      refine WF.nilFr (φ2 := [(1, .ptr 9 []), (2, .ptr 10 []), (3, .ptr 11 []), (5, .ptr 12 []), (7, .ptr 15 []), (10, .sl 19 19 [] 5 0 0 none), (11, .int .i64 1), (73, .sl 18 8 [] 3 0 (min es.length 10) none), (74, .nat .i64 (min es.length 10)), (75, .nat .i64 0)]) 29 5 (evtsS []) (fun _ q => evtsS_stable q) rfl ?_ ?_ ?_
      · refine ⟨⟨_, rfl, fun β _ _ => rfl⟩, ⟨_, rfl, fun β _ _ => rfl⟩, ⟨_, rfl, fun β _ _ => rfl⟩, ⟨_, rfl, fun β _ _ => rfl⟩, ⟨_, rfl, fun β _ _ => rfl⟩, ⟨_, rfl, fun β h0 hx => (nil_cl (k := 5) h0 (show β 19 = (none, 0) from hx)).symm⟩, ⟨_, rfl, fun β _ _ => rfl⟩, ⟨_, rfl, fun β _ _ => rfl⟩, ⟨_, rfl, fun β _ _ => rfl⟩, ⟨_, rfl, fun β _ _ => rfl⟩, trivial⟩
      · simp [StableF, Stable, hp, HB.born]
      simp only [List.cons_append, List.nil_append]
      have hz2 : Less (.own 29 (.arr 0 5 (evtsS [])) false) (.own 29 (.arr 0 5 (evtsS (mEv (1 + id.tmod 16) (es.take 0)).2)) false) := .same _
      refine WF.loopAt (fun (k : Nat) => k ≤ min es.length 10) (fun (k : Nat) => [(1, .ptr 9 []), (2, .ptr 10 []), (3, .ptr 11 []), (5, .ptr 12 []), (7, .ptr 15 []), (10, .sl 19 19 [] 5 0 k none), (11, .int .i64 (mEv (1 + id.tmod 16) (es.take k)).1), (73, .sl 18 8 [] 3 0 (min es.length 10) none), (74, .nat .i64 (min es.length 10)), (75, .nat .i64 k)]) (fun (k : Nat) => [.gone, .gone, .ro (.arr xs.length 5 (prS xs)), .gone, .ro (.arr cs.length 1 (i64S cs)), .gone, .ro (.arr ps.length 1 (u8S ps)), .gone, .ro (.arr es.length 3 (esS es)), .own 78 (.agg [.sl 1 2 [] 5 0 xs.length (some p1), .agg [.int .u8 a, .arr 8 1 (fun q => .int .i64 (rg q)), .sl 3 4 [] 1 0 cs.length (some p2), .int .u32 d, .int .u8 sn], .int .u64 seed, .int .u8 id, .int .u8 ahead, .int .u16 fuel, .int .u16 sq, .sl 5 6 [] 1 0 ps.length (some p3), .sl 7 8 [] 3 0 es.length (some p4)]) true, .own 65 (.agg [.nat .u64 0, .nat .i64 0, .nat .i64 0]) true, .own 67 (.agg [.nat .i64 0, .sl 0 0 [] 0 0 0 (some 0), .sl 0 0 [] 0 0 0 (some 0), .nat .i64 0, .nat .i64 0, .sl 0 0 [] 0 0 0 (some 0)]) true, .own 65 (.agg [.int .u64 seed, .int .i64 (1 + ahead.tmod 5), .int .i64 (fuel.tmod 300)]) true, .own 2 (.arr (cs.take 12).length 1 (i64S (cs.take 12))) false, .own 38 (.arr (made14 xs).length 5 (prS (made14 xs))) false, .own 67 (.agg [.int .i64 (1 + id.tmod 16), .sl 14 14 [] 5 0 (made14 xs).length none, .sl 13 13 [] 1 0 (cs.take 12).length none, .int .i64 d, .int .i64 sq, .sl 17 17 [] 1 0 (min ps.length 16) none]) true, .gone, .own 3 (.arr (min ps.length 16) 1 (i64S (mPorts (ps.take 16)))) false, .gone, .own 29 (.arr k 5 (evtsS (mEv (1 + id.tmod 16) (es.take k)).2)) false]) (fun (k : Nat) => min es.length 10 - k) 0 (Nat.zero_le _) ?_ ?_ rfl ?_ ?_ rfl ?_
      · ((repeat' (first | exact trivial | apply And.intro)) <;> (first | rfl | rfl))
      · exact Vm.b8
      · exact Vm.b117
      · exact Vm.b117
      intro k hk
      by_cases hkl : k < min es.length 10
      · have hke : k < es.length := by omega
        have hI := mi_all (id := (1 + id.tmod 16)) (l := es.take 10) (by rw [List.length_take]; omega) (fun e he => hes e (List.mem_of_mem_take he)) k (by rw [List.length_take]; omega)
        rw [List.take_take, Nat.min_eq_left (by omega)] at hI
        have hSn : mEv (1 + id.tmod 16) (es.take (k + 1)) = mStep (1 + id.tmod 16) (mEv (1 + id.tmod 16) (es.take k)) (es.getD k ⟨0, 0, 0⟩) := by rw [take_snoc ⟨0, 0, 0⟩ hke, mEv_snoc]
        obtain ⟨S, hS⟩ : ∃ S, mEv (1 + id.tmod 16) (es.take k) = S := ⟨_, rfl⟩
        obtain ⟨e, he⟩ : ∃ e, es.getD k ⟨0, 0, 0⟩ = e := ⟨_, rfl⟩
        have heo : e.ok := by
          rw [← he, List.getD_eq_getElem?_getD, List.getElem?_eq_getElem hke]
          exact hes _ (List.getElem_mem _)
        rw [hS] at hI hSn
        rw [he] at hSn
        rw [hS]
        obtain ⟨at0, l⟩ := S
        have hn := hI.n
        have t0 := hI.t0
        have t1 := hI.t1
        have m0 := heo.m0
        have m1 := heo.m1
        have s0 := heo.s0
        have s1 := heo.s1
        have s2 := Int.tmod_nonneg 17 heo.s0
        have s3 := Int.tmod_lt_of_pos e.source (show (0 : Int) < 17 by decide)
        dsimp only at hn t0 t1 ⊢
        have hden : ∀ β, (SV.int .i64 (at0 + e.more)).den β = (SV.int .i64 (mEv (1 + id.tmod 16) (es.take (k + 1))).1).den β := fun β => by rw [hSn]; rfl
        by_cases hk0 : 0 < k
        · have hkm : ((k : Int) - 1).toNat = k - 1 := by omega
          have hlE : lastE l = l.getD (k - 1) ⟨0, 0, 0, 0, 0⟩ := by unfold lastE; rw [hn]
          have hk1 : k - 1 < l.length := by omega
          by_cases hte : (l.getD (k - 1) ⟨0, 0, 0, 0, 0⟩).time = at0 + e.more
          · have hsr : mSrc l (at0 + e.more) (e.source.tmod 17) = max (e.source.tmod 17) (l.getD (k - 1) ⟨0, 0, 0, 0, 0⟩).source := by unfold mSrc; rw [hlE, if_pos ⟨by omega, hte⟩]
            have hS2 : (mEv (1 + id.tmod 16) (es.take (k + 1))).2 = l ++ [⟨at0 + e.more, max (e.source.tmod 17) (l.getD (k - 1) ⟨0, 0, 0, 0, 0⟩).source, k, (1 + id.tmod 16), e.value⟩] := by rw [hSn, ← hsr, ← hn]; rfl
            repeat' (first | refine Ctl.h ?_ | ((with_reducible intro hif); first | (focus (cases hif; done)) | (simp only [JH] at hif; try (exfalso; omega)) | (try (exfalso; omega))) | ((first | ((with_reducible apply J22 cM28N_ok tab_ok); (· rfl)) | ((with_reducible apply J23 fol cM28N_ok tab_ok); (· rfl)) | with_reducible apply J24); (· exact Vm.b126); (try kernel_rfl); (try exact Vm.b124)) | fail)
            refine At.nextPick [0, 1, 2, 3, 4, 5, 6, 7, 8, 9, 10, 11, 12, 13, 14, 15, 16, 17, 18, 22] (k + 1) ?_ rfl rfl rfl ?_ rfl ?_ ?_ ?_ rfl
            · omega
            · exact Vm.b118
            · exact Vm.b117
            · exact Vm.b119
            · exact Vm.b117
          · have hsr : mSrc l (at0 + e.more) (e.source.tmod 17) = e.source.tmod 17 := by unfold mSrc; rw [hlE, if_neg (fun h => hte h.2)]
            have hS2 : (mEv (1 + id.tmod 16) (es.take (k + 1))).2 = l ++ [⟨at0 + e.more, e.source.tmod 17, k, (1 + id.tmod 16), e.value⟩] := by rw [hSn, ← hsr, ← hn]; rfl
            repeat' (first | refine Ctl.h ?_ | ((with_reducible intro hif); first | (focus (cases hif; done)) | (simp only [JH] at hif; try (exfalso; omega)) | (try (exfalso; omega))) | ((first | ((with_reducible apply J22 cM28N_ok tab_ok); (· rfl)) | ((with_reducible apply J23 fol cM28N_ok tab_ok); (· rfl)) | with_reducible apply J24); (· exact Vm.b126); (try kernel_rfl); (try exact Vm.b124)) | fail)
            refine At.nextPick [0, 1, 2, 3, 4, 5, 6, 7, 8, 9, 10, 11, 12, 13, 14, 15, 16, 17, 18, 22] (k + 1) ?_ rfl rfl rfl ?_ rfl ?_ ?_ ?_ rfl
            · omega
            · exact Vm.b118
            · exact Vm.b117
            · exact Vm.b119
            · exact Vm.b117
        · obtain rfl : k = 0 := by omega
          obtain rfl : l = [] := List.eq_nil_of_length_eq_zero hn
          have hsr : mSrc [] (at0 + e.more) (e.source.tmod 17) = e.source.tmod 17 := by unfold mSrc; rw [if_neg (fun h => absurd h.1 (Nat.lt_irrefl 0))]
          have hS2 : (mEv (1 + id.tmod 16) (es.take (0 + 1))).2 = [⟨at0 + e.more, e.source.tmod 17, 0, (1 + id.tmod 16), e.value⟩] := by
            rw [hSn, ← hsr]; rfl
          repeat' (first | refine Ctl.h ?_ | ((with_reducible intro hif); first | (focus (cases hif; done)) | (simp only [JH] at hif; try (exfalso; omega)) | (try (exfalso; omega))) | ((first | ((with_reducible apply J22 cM28N_ok tab_ok); (· rfl)) | ((with_reducible apply J23 fol cM28N_ok tab_ok); (· rfl)) | with_reducible apply J24); (· (simp only [push_cast, ↓JP, Nat.reduceAdd, Nat.reduceEqDiff, Nat.reduceLT, Nat.reduceMul, Nat.reduceLeDiff, reduceCtorEq, reduceIte, ↓JK, cM28N, Nat.sub_zero, hm, hkl, he, evtsS, ↓evtS_sz, ↓evtS_ag, ↓evtS_pl, nav_evt, nav_evt0, nav_evt1, nav_evt2, evm_ev]; rfl)); (try kernel_rfl); (try exact Vm.b124)) | fail)
          refine At.nextPick [0, 1, 2, 3, 4, 5, 6, 7, 8, 9, 10, 11, 12, 13, 14, 15, 16, 17, 18, 22] (0 + 1) ?_ rfl rfl rfl ?_ rfl ?_ ?_ ?_ rfl
          · omega
          · exact Vm.b118
          · exact Vm.b117
          · exact Vm.b119
          · exact Vm.b117
      · obtain rfl : k = min es.length 10 := by omega
        have het : es.take (min es.length 10) = es.take 10 := by
          rcases Nat.le_total es.length 10 with h | h
          · exact Vm.b106
          · rw [Nat.min_eq_right h]
        rw [het]
        have hEl : (mEv (1 + id.tmod 16) (es.take 10)).2.length = min es.length 10 := by
          have := (mEv_good (p := ⟨(1 + id.tmod 16), [], [], 0, 0, []⟩) (l := es.take 10) (by rw [List.length_take]; omega) (fun e he => hes e (List.mem_of_mem_take he))).1
          rw [show (Prc.mk (1 + id.tmod 16) [] [] 0 0 []).id = (1 + id.tmod 16) from rfl] at this
          rw [this, List.length_take, Nat.min_comm]
        repeat' (first | refine Ctl.h ?_ | ((with_reducible intro hif); first | (focus (cases hif; done)) | (simp only [JH] at hif; try (exfalso; omega)) | (try (exfalso; omega))) | ((first | ((with_reducible apply J22 cM28N_ok tab_ok); (· rfl)) | ((with_reducible apply J23 fol cM28N_ok tab_ok); (· rfl)) | with_reducible apply J24); (· exact Vm.b125); (try kernel_rfl); (try exact Vm.b124)) | fail)
        apply At.endsPick [0, 1, 2, 3, 4, 5, 6, 7, 8, 14, 13, 17, 19] tab_ok (fn := Tryz.f23) (rs := [.cell 2 65, .cell 3 67, .tmp 4]) Anc.refl hro (Nat.le_of_ble_eq_true rfl) rfl
        · exact Vm.b18
        · exact Vm.b24
        · rfl
        · rfl
        · rfl
        · (repeat' (first | exact trivial | exact .inl rfl | exact .inr (.same _) | exact .inr .loose | exact .inr (.arr (by assumption)) | apply And.intro | (simp only [inO, hPl, hEl]; exact .inr (.same _))))
        · rfl
        · exact Vm.b117
        · exact Vm.b10
        · intro β; simp only [pcS, hPl, hEl]; rfl
        · exact Vm.b117
end Go.Proofs.YtjliakjbdcplcaaGreat.Vm
end

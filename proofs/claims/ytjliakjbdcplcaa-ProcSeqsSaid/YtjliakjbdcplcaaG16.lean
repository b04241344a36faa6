import Derived.Test.YtjliakjbdcplcaaG6
import Derived.Test.YtjliakjbdcplcaaG7
import Derived.Test.YtjliakjbdcplcaaG8
import Derived.Test.YtjliakjbdcplcaaG9
import Derived.Test.YtjliakjbdcplcaaG11
import Derived.Test.YtjliakjbdcplcaaG12
import Derived.Test.YtjliakjbdcplcaaG15
section
namespace Go.Proofs.Ytjliakjbdcplcaa.Vm
theorem b105 {P : Prop} (h : P := by simp only [push_cast, ↓JP, Nat.reduceAdd, Nat.reduceEqDiff, Nat.reduceLT, Nat.reduceMul, Nat.reduceLeDiff, reduceCtorEq, reduceIte, ↓JK, noDefer, List.drop_zero, List.drop_succ_cons, JE, prc_eta, cAG, sPCheck, sTakes, sPCopy, sKCmp, rHs, pcS, prO, i64O, inO, evm_ev, rHaB, rHaG, donP, dnI, isIns_insS, isI_int, isEvt_evtS, evtOf_evtS, ls_evtsS, ls_evtsS', nodupN, memN, inR, inN, ↓evtS_sz, ↓evtS_ag, ↓evtS_pl, nav_evt, nav_evt0, nav_evt1, nav_evt2, rul_eta, ls_zero, JB, dnS, dnR, dnB, evO_, dn0, evtsS, dnn_eta, hkl, he, h0]; rfl) : P := h
theorem b106 {P : Prop} (h : P := by (focus (first | exact True.intro | ((try simp only [JS, implies_true, forall_const, shaped, shapedL, kndOf, ls_prS, ls_prS', ls_i64S', ls_i64S, ls_evtsS', ls_evtsS, ls_length, evtOf_evtS, prc_eta, iOf]); (repeat' (first | exact True.intro | assumption | omega | apply And.intro | rfl | decide | intro _)); done) | ((try simp only [JS, implies_true, forall_const, shaped, shapedL, kndOf, inR, inN]); (repeat' (first | assumption | exact True.intro | omega | apply And.intro)); done)))) : P := h
theorem b107 {P : Prop} (h : P := by first | rfl | (simp only [push_cast, ↓JP, Nat.reduceAdd, Nat.reduceEqDiff, Nat.reduceLT, Nat.reduceMul, Nat.reduceLeDiff, reduceCtorEq, reduceIte, ↓JK, noDefer, List.drop_zero, List.drop_succ_cons, JE, prc_eta, cAG, sPCheck, sTakes, sPCopy, sKCmp, rHs, pcS, prO, i64O, inO, evm_ev, rHaB, rHaG, donP, dnI, isIns_insS, isI_int, isEvt_evtS, evtOf_evtS, ls_evtsS, ls_evtsS', nodupN, memN, inR, inN, ↓evtS_sz, ↓evtS_ag, ↓evtS_pl, nav_evt, nav_evt0, nav_evt1, nav_evt2, rul_eta, ls_zero, JB, dnS, dnR, dnB, evO_, dn0, evtsS, dnn_eta, hkl, he, h0]; done)) : P := h
theorem b108 {P : Prop} (h : P := by simp only [push_cast, ↓JP, Nat.reduceAdd, Nat.reduceEqDiff, Nat.reduceLT, Nat.reduceMul, Nat.reduceLeDiff, reduceCtorEq, reduceIte, ↓JK, noDefer, List.drop_zero, List.drop_succ_cons, JE, prc_eta, cAB, sPCheck, sTakes, sPCopy, sKCmp, rHs, pcS, prO, i64O, inO, evm_ev, rHaB, rHaG, donP, dnI, isIns_insS, isI_int, isEvt_evtS, evtOf_evtS, ls_evtsS, ls_evtsS', nodupN, memN, inR, inN, ↓evtS_sz, ↓evtS_ag, ↓evtS_pl, nav_evt, nav_evt0, nav_evt1, nav_evt2, rul_eta, ls_zero, JB, dnS, dnR, dnB, evO_, dn0, evtsS, dnn_eta, hkl, he, hk1]; rfl) : P := h
theorem b109 {P : Prop} (h : P := by first | rfl | (simp only [push_cast, ↓JP, Nat.reduceAdd, Nat.reduceEqDiff, Nat.reduceLT, Nat.reduceMul, Nat.reduceLeDiff, reduceCtorEq, reduceIte, ↓JK, noDefer, List.drop_zero, List.drop_succ_cons, JE, prc_eta, cAB, sPCheck, sTakes, sPCopy, sKCmp, rHs, pcS, prO, i64O, inO, evm_ev, rHaB, rHaG, donP, dnI, isIns_insS, isI_int, isEvt_evtS, evtOf_evtS, ls_evtsS, ls_evtsS', nodupN, memN, inR, inN, ↓evtS_sz, ↓evtS_ag, ↓evtS_pl, nav_evt, nav_evt0, nav_evt1, nav_evt2, rul_eta, ls_zero, JB, dnS, dnR, dnB, evO_, dn0, evtsS, dnn_eta, hkl, he, hk1]; done)) : P := h
theorem b110 {P : Prop} (h : P := by (simp only [push_cast, ↓JP, Nat.reduceAdd, Nat.reduceEqDiff, Nat.reduceLT, Nat.reduceMul, Nat.reduceLeDiff, reduceCtorEq, reduceIte, ↓JK, JE, prc_eta, cA0, sPCheck, sTakes, sPCopy, sKCmp, rHs, pcS, prO, i64O, inO, evm_ev, rHaB, rHaG, donP, dnI, isIns_insS, isI_int, isEvt_evtS, evtOf_evtS, ls_evtsS, ls_evtsS', nodupN, memN, inR, inN, ↓evtS_sz, ↓evtS_ag, ↓evtS_pl, nav_evt, nav_evt0, nav_evt1, nav_evt2, rul_eta, ls_zero, JB, dnS, dnR, dnB, evO_, dn0, evtsS, dnn_eta]; rfl)) : P := h
theorem b111 {P : Prop} (h : P := by (simp only [push_cast, ↓JP, Nat.reduceAdd, Nat.reduceEqDiff, Nat.reduceLT, Nat.reduceMul, Nat.reduceLeDiff, reduceCtorEq, reduceIte, ↓JK, JE, prc_eta, cAG, sPCheck, sTakes, sPCopy, sKCmp, rHs, pcS, prO, i64O, inO, evm_ev, rHaB, rHaG, donP, dnI, isIns_insS, isI_int, isEvt_evtS, evtOf_evtS, ls_evtsS, ls_evtsS', nodupN, memN, inR, inN, ↓evtS_sz, ↓evtS_ag, ↓evtS_pl, nav_evt, nav_evt0, nav_evt1, nav_evt2, rul_eta, ls_zero, JB, dnS, dnR, dnB, evO_, dn0, evtsS, dnn_eta, hkl, he, h0]; rfl)) : P := h
theorem b112 {P : Prop} (h : P := by (simp only [push_cast, ↓JP, Nat.reduceAdd, Nat.reduceEqDiff, Nat.reduceLT, Nat.reduceMul, Nat.reduceLeDiff, reduceCtorEq, reduceIte, ↓JK, JE, prc_eta, cAB, sPCheck, sTakes, sPCopy, sKCmp, rHs, pcS, prO, i64O, inO, evm_ev, rHaB, rHaG, donP, dnI, isIns_insS, isI_int, isEvt_evtS, evtOf_evtS, ls_evtsS, ls_evtsS', nodupN, memN, inR, inN, ↓evtS_sz, ↓evtS_ag, ↓evtS_pl, nav_evt, nav_evt0, nav_evt1, nav_evt2, rul_eta, ls_zero, JB, dnS, dnR, dnB, evO_, dn0, evtsS, dnn_eta, hkl, he, hk1]; rfl)) : P := h
end Go.Proofs.Ytjliakjbdcplcaa.Vm
end
section
open Go.Proofs.Ytjliakjbdcplcaa.Vm Go.RowKit
attribute [local push_cast] runR opG gtmp gval gus opX tmpsOf tm tmO tmP restr look look2 tab tys zs ets eqB eqBL allB numOf ieq Int.cast_ofNat_Int Int.ofNat_zero beq_true beq_false frameOf ev evL ofV opV loadV noW pushF wrsL setH allBorn allGone HB.born HB.isGone HB.val SV.plain dstOk hp nav fitsT SV.size sizeL SV.isAgg TK.size TK.agg bin binE binN binI arN arI cmpN cmpI keq kn narrow callV storeV setp fillV buildV buildSliceV makeV sliceV appendV appendFV slice3V copyV List.isEmpty_nil srcV evO asN ite_t ite_f ite_bool ite_int ite_nat maxV v_beq v_ble v_blt cond_true cond_false List.getElem?_cons_zero List.getElem?_cons_succ List.getD_cons_zero List.getD_cons_succ List.getD_nil List.length_cons List.length_nil List.take_succ_cons List.take_zero List.set_cons_zero List.set_cons_succ List.cons_append List.nil_append List.append_assoc List.replicate_succ List.replicate_zero Nat.zero_add Nat.add_zero decide_true decide_false Bool.true_and Bool.and_true Bool.false_and Bool.and_false Bool.true_or Bool.or_true Bool.false_or Bool.or_false beq_self_eq_true Bool.or_self Nat.lt_irrefl Nat.not_lt_zero Nat.le_refl Option.getD_some Option.getD_none BEq.rfl Bool.not_true Bool.not_false Bool.cond_true_left Bool.cond_false_right prS sndsS i64S nav_ins nav_ins0 nav_ins1 nav_ins2 nav_ins3 nav_ins4 nav_snd nav_snd0 nav_snd1 nav_snd2 isIns_insS insOf_insS isSnd_sndS sndOf_sndS isI_int isI_nat iOf
section
namespace Go.Proofs.Ytjliakjbdcplcaa.Vm
open Go.RowKit
set_option linter.unusedVariables false
set_option linter.unusedSimpArgs false
set_option maxRecDepth 100000
set_option maxHeartbeats 4000000
theorem hs_lit (r : Rul) (n p : Nat) : LitOk Try.prog 58 [.ptr 1 [], .agg [.int .u64 r.seed, .int .i64 r.ahead, .int .i64 r.fuel], .sl 2 3 [] 5 0 n (some p)] [.gone, .gone, .gone, .gone] (.fn 85 [.ptr 6 [], .ptr 4 [], .ptr 5 []])
    [.gone, .gone, .gone, .gone, .own 136 (.ptr 1 []) true, .own 80 (.agg [.int .u64 r.seed, .int .i64 r.ahead, .int .i64 r.fuel]) true, .own 83 (.sl 2 3 [] 5 0 n (some p)) true] := by
  refine litOkM (fn := Try.f58) 4 8 0 rfl rfl rfl rfl rfl (by simp only [StableL, Stable, hp, pcS, dnB, DnI.at_, dnS, dnR, i64S, prS, insS, sndsS, sndS, evtsS, evtS, prO, i64O, inO, evO_, cB, sB, HB.stable]; simp [HB.born]) rfl fun w0 M E hro => ?_
  repeat' (first | with_reducible (first | apply J1 | apply J3 | apply J4 | apply J5 | apply J6 | apply J7 | apply J8 | apply J9 | apply J10 | apply J11 | apply J12 | apply J13 | apply J14 | apply J15 | apply J16 | apply J17 | apply J18 | apply J19 | apply J20 | refine J2 ?_) | ((with_reducible apply J21); (· rfl)) | ((with_reducible intro hif); first | (focus (cases hif; done)) | (simp only [JH] at hif; try (exfalso; omega)) | (try (exfalso; omega))) | ((first | ((with_reducible apply J22 c1_ok tab_ok); (· rfl)) | ((with_reducible apply J23 fol c1_ok tab_ok); (· rfl)) | with_reducible apply J24); (· exact Vm.b32); (try kernel_rfl); (try exact Vm.b19)) | fail)
  apply At.endsPick [0, 1, 2, 3, 4, 5, 6] tab_ok (fn := Try.f58) (rs := [.tmp 6]) Anc.refl hro (Nat.le_of_ble_eq_true rfl) rfl
  · exact Vm.b15
  · exact Vm.b21
  · rfl
  · rfl
  · rfl
  · exact Vm.b35
  · rfl
  · exact Vm.b102
  · exact Vm.b9
  · exact fun β => rfl
  · exact Vm.b102
def rHs : Spec := fun args h m => match args with
  | [.ptr d [], .agg [.int .u64 a, .int .i64 b, .int .i64 k], .sl z i [] 5 0 n (some p)] => bif (h d).born && ((h z).born && (h i).born) && nodupN [0, d, z, i] then some (True, .fn 85 [.ptr (m + 2) [], .ptr m [], .ptr (m + 1) []], [d, z, i],
      [(m, .own 136 (.ptr d []) true), (m + 1, .own 80 (.agg [.int .u64 a, .int .i64 b, .int .i64 k]) true), (m + 2, .own 83 (.sl z i [] 5 0 n (some p)) true)]) else none
  | _ => none
theorem rHs_ok : CallOk Try.prog 58 rHs := by
  refine ⟨named_spec (by kernel_rfl), fun args h m c v rd wr hs hm hc w0 M β h' w R hrd hwr hst => ?_⟩
  unfold rHs at hs
  split at hs
  · rename_i d a b k z i n p
    obtain ⟨hb, hs⟩ := bif_some hs
    simp only [Option.some.injEq, Prod.mk.injEq] at hs
    obtain ⟨rfl, rfl, rfl, rfl⟩ := hs
    simp only [Bool.and_eq_true] at hb
    obtain ⟨⟨b1, b2, b3⟩, hnd⟩ := hb
    have e1 : rhoL [0, d, z, i] m 4 = m := by simp [rhoL]
    have e2 : rhoL [0, d, z, i] m 5 = m + 1 := by simp [rhoL]
    have e3 : rhoL [0, d, z, i] m 6 = m + 2 := by simp [rhoL]
    have e4 : rhoL [0, d, z, i] m 1 = d := by simp [rhoL]
    have e5 : rhoL [0, d, z, i] m 2 = z := by simp [rhoL]
    have e6 : rhoL [0, d, z, i] m 3 = i := by simp [rhoL]
    exact bun_ok (h := h) (m := m) [0, d, z, i] (hs_lit ⟨a, b, k⟩ n p) R rfl (by simp) rfl rfl hnd
      ⟨Fit.gone (by rw [R.nil0]; rfl), Fit.gone (by rw [hrd d (by simp)]; exact b1), Fit.gone (by rw [hrd z (by simp)]; exact b2), Fit.gone (by rw [hrd i (by simp)]; exact b3), trivial⟩ hm
      (fun p' hp => by
        simp only [newB, List.drop, List.length_cons, List.length_nil, List.mem_cons, List.not_mem_nil, or_false] at hp
        rcases hp with rfl | rfl | rfl
        · exact hwr (m, .own 136 (.ptr d []) true) (by simp)
        · exact hwr (m + 1, .own 80 (.agg [.int .u64 a, .int .i64 b, .int .i64 k]) true) (by simp)
        · exact hwr (m + 2, .own 83 (.sl z i [] 5 0 n (some p)) true) (by simp)) (by simp) rfl
      ⟨trivial, trivial, trivial, trivial, trivial⟩ ⟨rfl, by simp [Stable, StableL], ⟨rfl, rfl⟩, trivial⟩ ⟨trivial, trivial, trivial, trivial, by simp [HB.stable, Stable, hp, mrgL, HB.born, HB.mine], by simp [HB.stable, Stable, StableL], by simp [HB.stable, Stable, hp, mrgL, HB.born, HB.mine], trivial⟩ (by simp [Stable, StableL, hp, mrgL, HB.born, HB.mine]) rfl
      (by simp only [SV.ren, renL, e1, e2, e3]) (by
        show [(m, (HB.own 136 (.ptr 1 []) true).ren _), (m + 1, (HB.own 80 (.agg [.int .u64 a, .int .i64 b, .int .i64 k]) true).ren _), (m + 2, (HB.own 83 (.sl 2 3 [] 5 0 n (some p)) true).ren _)] = _
        simp only [HB.ren, SV.ren, renL, e4, e5, e6])
  · cases hs
theorem badAt_zero {p : Prc} {l : List Evt} {i : Nat} (h : badAt p l i = 0) : takesB p (l.getD i ⟨0, 0, 0, 0, 0⟩) = true ∧ (0 < i → ¬ 0 ≤ (kcmp (l.getD (i - 1) ⟨0, 0, 0, 0, 0⟩).time (l.getD (i - 1) ⟨0, 0, 0, 0, 0⟩).source (l.getD (i - 1) ⟨0, 0, 0, 0, 0⟩).seq (l.getD i ⟨0, 0, 0, 0, 0⟩).time (l.getD i ⟨0, 0, 0, 0, 0⟩).source (l.getD i ⟨0, 0, 0, 0, 0⟩).seq).1) := by
  have ht := badAt_takes h
  refine ⟨ht, fun h0 hk => ?_⟩
  unfold badAt at h
  rw [if_neg (by rw [ht]; exact Bool.noConfusion), if_pos ⟨h0, hk⟩] at h
  cases h
theorem badAt_not {p : Prc} {l : List Evt} {i : Nat} (h : badAt p l i ≠ 0) : (takesB p (l.getD i ⟨0, 0, 0, 0, 0⟩) = false ∧ badAt p l i = 282) ∨ (takesB p (l.getD i ⟨0, 0, 0, 0, 0⟩) = true ∧ badAt p l i = 283 ∧ 0 < i ∧ 0 ≤ (kcmp (l.getD (i - 1) ⟨0, 0, 0, 0, 0⟩).time (l.getD (i - 1) ⟨0, 0, 0, 0, 0⟩).source (l.getD (i - 1) ⟨0, 0, 0, 0, 0⟩).seq (l.getD i ⟨0, 0, 0, 0, 0⟩).time (l.getD i ⟨0, 0, 0, 0, 0⟩).source (l.getD i ⟨0, 0, 0, 0, 0⟩).seq).1) := by
  unfold badAt at h ⊢
  cases ht : takesB p (l.getD i ⟨0, 0, 0, 0, 0⟩)
  · exact .inl ⟨rfl, if_pos rfl⟩
  · rw [ht] at h
    rw [if_neg Bool.noConfusion] at h ⊢
    by_cases hk : 0 < i ∧ 0 ≤ (kcE (l.getD (i - 1) ⟨0, 0, 0, 0, 0⟩) (l.getD i ⟨0, 0, 0, 0, 0⟩)).1
    · exact .inr ⟨rfl, if_pos hk, hk.1, hk.2⟩
    · rw [if_neg hk] at h; exact absurd rfl h
theorem dnn_eta (D : Dn) : Dn.mk D.p D.sent D.used = D := rfl
structure KD where
  k : Nat
  D : Dn
def cA0 : FuncId → Option Spec := look2 [(35, sPCheck), (53, sTakes), (54, sPCopy), (57, sKCmp), (58, rHs)]
theorem cA0_ok : ∀ f S, cA0 f = some S → CallOk Try.prog f S := allOk_spec ⟨sPCheck_ok, sTakes_ok, sPCopy_ok, sKCmp_ok, rHs_ok, trivial⟩
def cAB : FuncId → Option Spec := look2 [(35, sPCheck), (53, sTakes), (54, sPCopy), (57, sKCmp), (58, rHs), (55, rHaB)]
theorem cAB_ok : ∀ f S, cAB f = some S → CallOk Try.prog f S := allOk_spec ⟨sPCheck_ok, sTakes_ok, sPCopy_ok, sKCmp_ok, rHs_ok, rHaB_ok, trivial⟩
def cAG : FuncId → Option Spec := look2 [(35, sPCheck), (53, sTakes), (54, sPCopy), (57, sKCmp), (58, rHs), (55, rHaG)]
theorem cAG_ok : ∀ f S, cAG f = some S → CallOk Try.prog f S := allOk_spec ⟨sPCheck_ok, sTakes_ok, sPCopy_ok, sKCmp_ok, rHs_ok, rHaG_ok, trivial⟩
theorem nav_evt0 (e : Evt) (pa : List Stp) : nav (evtS e) (.f 0 0 :: pa) = nav (.agg [.int .i64 e.time, .int .i64 e.source, .int .i64 e.seq]) pa := rfl
theorem nav_evt1 (e : Evt) (pa : List Stp) : nav (evtS e) (.f 1 3 :: pa) = nav (.int .i64 e.to_) pa := rfl
theorem nav_evt2 (e : Evt) (pa : List Stp) : nav (evtS e) (.f 2 4 :: pa) = nav (.int .i64 e.value) pa := rfl
theorem all_bad (r : Rul) (p : Prc) (l : List Evt) (p1 p2 p3 p4 : Nat) (hok : ∀ x ∈ p.P, x.ok) (hn : p.P.length ≤ 1000000) (hc : p.cells.length ≤ 1000000) (hpo : p.ports.length ≤ 1000000) (hll : l.length ≤ 200) (i : Nat) (hi : i < l.length) (hE0 : procE r p = 0) (hB : ∀ q, q < i → badAt p l q = 0) (hb : badAt p l i ≠ 0) : LitOk Try.prog 32 [.agg [.int .u64 r.seed, .int .i64 r.ahead, .int .i64 r.fuel], .agg [.int .i64 p.id, .sl 1 2 [] 5 0 p.P.length (some p1), .sl 3 4 [] 1 0 p.cells.length (some p2), .int .i64 p.draws, .int .i64 p.seq, .sl 5 6 [] 1 0 p.ports.length (some p3)], .sl 7 8 [] 5 0 l.length (some p4)]
    [.gone, .gone, .ro (.arr p.P.length 5 (prS p.P)), .gone, .ro (.arr p.cells.length 1 (i64S p.cells)), .gone, .ro (.arr p.ports.length 1 (i64S p.ports)), .gone, .ro (.arr l.length 5 (evtsS l))]
    (.tup [dn0, .nat .i64 i, .int .i64 (badAt p l i)]) [.gone] := by

  refine litOkM (fn := Try.f32) 9 80 0 rfl rfl rfl rfl rfl (by simp only [StableL, Stable, hp, pcS, dnB, DnI.at_, dnS, dnR, i64S, prS, insS, sndsS, sndS, evtsS, evtS, prO, i64O, inO, evO_, cB, sB, HB.stable]; simp [HB.born, evtS]) rfl fun w0 M E hro => ?_
  repeat' (first | with_reducible (first | apply J1 | apply J3 | apply J4 | apply J5 | apply J6 | apply J7 | apply J8 | apply J9 | apply J10 | apply J11 | apply J12 | apply J13 | apply J14 | apply J15 | apply J16 | apply J17 | apply J18 | apply J19 | apply J20 | refine J2 ?_) | ((with_reducible apply J21); (· rfl)) | ((with_reducible intro hif); first | (focus (cases hif; done)) | (simp only [JH] at hif; try (exfalso; omega)) | (try (exfalso; omega))) | ((first | ((with_reducible apply J22 cA0_ok tab_ok); (· rfl)) | ((with_reducible apply J23 fol cA0_ok tab_ok); (· rfl)) | with_reducible apply J24); (· (simp only [push_cast, ↓JP, Nat.reduceAdd, Nat.reduceEqDiff, Nat.reduceLT, Nat.reduceMul, Nat.reduceLeDiff, reduceCtorEq, reduceIte, ↓JK, JE, prc_eta, cA0, sPCheck, sTakes, sPCopy, sKCmp, rHs, pcS, prO, i64O, inO, evm_ev, rHaB, rHaG, donP, dnI, isIns_insS, isI_int, isEvt_evtS, evtOf_evtS, ls_evtsS, ls_evtsS', nodupN, memN, inR, inN, ↓evtS_sz, ↓evtS_ag, ↓evtS_pl, nav_evt, nav_evt0, nav_evt1, nav_evt2, rul_eta, ls_zero, JB, dnS, dnR, dnB, evO_, dn0, evtsS, hE0]; rfl)); (try kernel_rfl); (try exact Vm.b103)) | fail)
  refine WF.loopAt (fun (j : Nat) => j ≤ i) (fun (j : Nat) => [(2, .sl 7 8 [] 5 0 l.length (some p4)), (3, .ptr 9 []), (4, .ptr 10 []), (6, .ptr 11 []), (26, .sl 7 8 [] 5 0 l.length (some p4)), (27, .nat .i64 l.length), (28, .nat .i64 j)]) (fun (j : Nat) => [.gone, .gone, .ro (.arr p.P.length 5 (prS p.P)), .gone, .ro (.arr p.cells.length 1 (i64S p.cells)), .gone, .ro (.arr p.ports.length 1 (i64S p.ports)), .gone, .ro (.arr l.length 5 (evtsS l)), .own 80 (.agg [.int .u64 r.seed, .int .i64 r.ahead, .int .i64 r.fuel]) true, .own 82 (.agg [.int .i64 p.id, .sl 1 2 [] 5 0 p.P.length (some p1), .sl 3 4 [] 1 0 p.cells.length (some p2), .int .i64 p.draws, .int .i64 p.seq, .sl 5 6 [] 1 0 p.ports.length (some p3)]) true, .own 87 dn0 true]) (fun (j : Nat) => i - j) 0 (Nat.zero_le _) ?_ ?_ rfl ?_ ?_ rfl ?_
  · exact Vm.b10
  · exact Vm.b7
  · exact Vm.b102
  · exact Vm.b102
  intro j hj
  by_cases hji : j < i
  · have hbj := hB j hji
    have hjl : j < l.length := by omega
    obtain ⟨hT, hK⟩ := badAt_zero hbj
    by_cases hj0 : 0 < j
    · have hK := hK hj0
      have hjm : ((j : Int) - 1).toNat = j - 1 := by omega
      repeat' (first | with_reducible (first | apply J1 | apply J3 | apply J4 | apply J5 | apply J6 | apply J7 | apply J8 | apply J9 | apply J10 | apply J11 | apply J12 | apply J13 | apply J14 | apply J15 | apply J16 | apply J17 | apply J18 | apply J19 | apply J20 | refine J2 ?_) | ((with_reducible apply J21); (· rfl)) | ((with_reducible intro hif); first | (focus (cases hif; done)) | (simp only [JH] at hif; try (exfalso; omega)) | (try (exfalso; omega))) | ((first | ((with_reducible apply J22 cA0_ok tab_ok); (· rfl)) | ((with_reducible apply J23 fol cA0_ok tab_ok); (· rfl)) | with_reducible apply J24); (· (simp only [push_cast, ↓JP, Nat.reduceAdd, Nat.reduceEqDiff, Nat.reduceLT, Nat.reduceMul, Nat.reduceLeDiff, reduceCtorEq, reduceIte, ↓JK, JE, prc_eta, cA0, sPCheck, sTakes, sPCopy, sKCmp, rHs, pcS, prO, i64O, inO, evm_ev, rHaB, rHaG, donP, dnI, isIns_insS, isI_int, isEvt_evtS, evtOf_evtS, ls_evtsS, ls_evtsS', nodupN, memN, inR, inN, ↓evtS_sz, ↓evtS_ag, ↓evtS_pl, nav_evt, nav_evt0, nav_evt1, nav_evt2, rul_eta, ls_zero, JB, dnS, dnR, dnB, evO_, dn0, evtsS, hjl, hT, hj0, hjm, hK]; rfl)); (try kernel_rfl); (try exact Vm.b103)) | fail)
      refine At.next (j + 1) ?_ ?_ ?_ rfl ?_ ?_ rfl
      · omega
      · exact Vm.b10
      · exact Vm.b7
      · exact Vm.b102
      · exact Vm.b102
    · obtain rfl : j = 0 := by omega
      repeat' (first | with_reducible (first | apply J1 | apply J3 | apply J4 | apply J5 | apply J6 | apply J7 | apply J8 | apply J9 | apply J10 | apply J11 | apply J12 | apply J13 | apply J14 | apply J15 | apply J16 | apply J17 | apply J18 | apply J19 | apply J20 | refine J2 ?_) | ((with_reducible apply J21); (· rfl)) | ((with_reducible intro hif); first | (focus (cases hif; done)) | (simp only [JH] at hif; try (exfalso; omega)) | (try (exfalso; omega))) | ((first | ((with_reducible apply J22 cA0_ok tab_ok); (· rfl)) | ((with_reducible apply J23 fol cA0_ok tab_ok); (· rfl)) | with_reducible apply J24); (· (simp only [push_cast, ↓JP, Nat.reduceAdd, Nat.reduceEqDiff, Nat.reduceLT, Nat.reduceMul, Nat.reduceLeDiff, reduceCtorEq, reduceIte, ↓JK, JE, prc_eta, cA0, sPCheck, sTakes, sPCopy, sKCmp, rHs, pcS, prO, i64O, inO, evm_ev, rHaB, rHaG, donP, dnI, isIns_insS, isI_int, isEvt_evtS, evtOf_evtS, ls_evtsS, ls_evtsS', nodupN, memN, inR, inN, ↓evtS_sz, ↓evtS_ag, ↓evtS_pl, nav_evt, nav_evt0, nav_evt1, nav_evt2, rul_eta, ls_zero, JB, dnS, dnR, dnB, evO_, dn0, evtsS, hjl, hT]; rfl)); (try kernel_rfl); (try exact Vm.b103)) | fail)
      refine At.next (0 + 1) ?_ ?_ ?_ rfl ?_ ?_ rfl
      · omega
      · exact Vm.b10
      · exact Vm.b7
      · exact Vm.b102
      · exact Vm.b102
  · obtain rfl : j = i := by omega
    rcases badAt_not hb with ⟨hT, hv⟩ | ⟨hT, hv, hj0, hK⟩
    · skip
      repeat' (first | with_reducible (first | apply J1 | apply J3 | apply J4 | apply J5 | apply J6 | apply J7 | apply J8 | apply J9 | apply J10 | apply J11 | apply J12 | apply J13 | apply J14 | apply J15 | apply J16 | apply J17 | apply J18 | apply J19 | apply J20 | refine J2 ?_) | ((with_reducible apply J21); (· rfl)) | ((with_reducible intro hif); first | (focus (cases hif; done)) | (simp only [JH] at hif; try (exfalso; omega)) | (try (exfalso; omega))) | ((first | ((with_reducible apply J22 cA0_ok tab_ok); (· rfl)) | ((with_reducible apply J23 fol cA0_ok tab_ok); (· rfl)) | with_reducible apply J24); (· (simp only [push_cast, ↓JP, Nat.reduceAdd, Nat.reduceEqDiff, Nat.reduceLT, Nat.reduceMul, Nat.reduceLeDiff, reduceCtorEq, reduceIte, ↓JK, JE, prc_eta, cA0, sPCheck, sTakes, sPCopy, sKCmp, rHs, pcS, prO, i64O, inO, evm_ev, rHaB, rHaG, donP, dnI, isIns_insS, isI_int, isEvt_evtS, evtOf_evtS, ls_evtsS, ls_evtsS', nodupN, memN, inR, inN, ↓evtS_sz, ↓evtS_ag, ↓evtS_pl, nav_evt, nav_evt0, nav_evt1, nav_evt2, rul_eta, ls_zero, JB, dnS, dnR, dnB, evO_, dn0, evtsS, hi, hT]; rfl)); (try kernel_rfl); (try exact Vm.b103)) | fail)
      apply At.endsRet tab_ok (fn := Try.f32) (rs := [.cell 6 87, .tmp 7, .tmp 8]) Anc.refl hro (Nat.le_of_ble_eq_true rfl) rfl
      · exact Vm.b15
      · exact Vm.b6
      · exact Vm.b7
      · rfl
      · exact Vm.b102
      · exact Vm.b9
      · rw [hv]; exact fun β => rfl
      · exact Vm.b102
    · have hjm : ((j : Int) - 1).toNat = j - 1 := by omega
      repeat' (first | with_reducible (first | apply J1 | apply J3 | apply J4 | apply J5 | apply J6 | apply J7 | apply J8 | apply J9 | apply J10 | apply J11 | apply J12 | apply J13 | apply J14 | apply J15 | apply J16 | apply J17 | apply J18 | apply J19 | apply J20 | refine J2 ?_) | ((with_reducible apply J21); (· rfl)) | ((with_reducible intro hif); first | (focus (cases hif; done)) | (simp only [JH] at hif; try (exfalso; omega)) | (try (exfalso; omega))) | ((first | ((with_reducible apply J22 cA0_ok tab_ok); (· rfl)) | ((with_reducible apply J23 fol cA0_ok tab_ok); (· rfl)) | with_reducible apply J24); (· (simp only [push_cast, ↓JP, Nat.reduceAdd, Nat.reduceEqDiff, Nat.reduceLT, Nat.reduceMul, Nat.reduceLeDiff, reduceCtorEq, reduceIte, ↓JK, JE, prc_eta, cA0, sPCheck, sTakes, sPCopy, sKCmp, rHs, pcS, prO, i64O, inO, evm_ev, rHaB, rHaG, donP, dnI, isIns_insS, isI_int, isEvt_evtS, evtOf_evtS, ls_evtsS, ls_evtsS', nodupN, memN, inR, inN, ↓evtS_sz, ↓evtS_ag, ↓evtS_pl, nav_evt, nav_evt0, nav_evt1, nav_evt2, rul_eta, ls_zero, JB, dnS, dnR, dnB, evO_, dn0, evtsS, hi, hT, hj0, hjm, hK]; rfl)); (try kernel_rfl); (try exact Vm.b103)) | fail)
      apply At.endsRet tab_ok (fn := Try.f32) (rs := [.cell 6 87, .tmp 7, .tmp 8]) Anc.refl hro (Nat.le_of_ble_eq_true rfl) rfl
      · exact Vm.b15
      · exact Vm.b6
      · exact Vm.b7
      · rfl
      · exact Vm.b102
      · exact Vm.b9
      · rw [hv]; exact fun β => rfl
      · exact Vm.b102
theorem all_gen (r : Rul) (p : Prc) (l : List Evt) (p1 p2 p3 p4 : Nat) (hok : ∀ x ∈ p.P, x.ok) (hn : p.P.length ≤ 1000000) (hc : p.cells.length ≤ 1000000) (hpo : p.ports.length ≤ 1000000) (hll : l.length ≤ 200) (hE0 : procE r p = 0) (hB : ∀ q, q < l.length → badAt p l q = 0) (k0 : Nat) (hk0 : k0 ≤ l.length) (hAll : AllK r ⟨p, [], 0⟩ l k0) (v : SV) (L1 : List HB) (hc0 : (k0 = l.length ∧ v = (.tup [dnS (foldD r ⟨p, [], 0⟩ l) 9 10 11 12, .int .i64 (-1), .int .i64 0]) ∧ L1 = [.gone, .gone, .gone, .gone, .gone, .gone, .gone, .gone, .gone, prO (foldD r ⟨p, [], 0⟩ l).p.P, i64O (foldD r ⟨p, [], 0⟩ l).p.cells, inO (foldD r ⟨p, [], 0⟩ l).p.ports, evO_ (foldD r ⟨p, [], 0⟩ l).sent]) ∨ (k0 < l.length ∧ hE r (foldD r ⟨p, [], 0⟩ (l.take k0)).p (l.getD k0 ⟨0, 0, 0, 0, 0⟩) ≠ 0 ∧ v = (.tup [dn0, .nat .i64 k0, .int .i64 (hE r (foldD r ⟨p, [], 0⟩ (l.take k0)).p (l.getD k0 ⟨0, 0, 0, 0, 0⟩))]) ∧ L1 = [.gone])) : LitOk Try.prog 32 [.agg [.int .u64 r.seed, .int .i64 r.ahead, .int .i64 r.fuel], .agg [.int .i64 p.id, .sl 1 2 [] 5 0 p.P.length (some p1), .sl 3 4 [] 1 0 p.cells.length (some p2), .int .i64 p.draws, .int .i64 p.seq, .sl 5 6 [] 1 0 p.ports.length (some p3)], .sl 7 8 [] 5 0 l.length (some p4)]
    [.gone, .gone, .ro (.arr p.P.length 5 (prS p.P)), .gone, .ro (.arr p.cells.length 1 (i64S p.cells)), .gone, .ro (.arr p.ports.length 1 (i64S p.ports)), .gone, .ro (.arr l.length 5 (evtsS l))]
    v L1 := by

  refine litOkM (fn := Try.f32) 9 80 0 rfl rfl rfl rfl rfl (by simp only [StableL, Stable, hp, pcS, dnB, DnI.at_, dnS, dnR, i64S, prS, insS, sndsS, sndS, evtsS, evtS, prO, i64O, inO, evO_, cB, sB, HB.stable]; simp [HB.born, evtS]) rfl fun w0 M E hro => ?_
  repeat' (first | with_reducible (first | apply J1 | apply J3 | apply J4 | apply J5 | apply J6 | apply J7 | apply J8 | apply J9 | apply J10 | apply J11 | apply J12 | apply J13 | apply J14 | apply J15 | apply J16 | apply J17 | apply J18 | apply J19 | apply J20 | refine J2 ?_) | ((with_reducible apply J21); (· rfl)) | ((with_reducible intro hif); first | (focus (cases hif; done)) | (simp only [JH] at hif; try (exfalso; omega)) | (try (exfalso; omega))) | ((first | ((with_reducible apply J22 cA0_ok tab_ok); (· rfl)) | ((with_reducible apply J23 fol cA0_ok tab_ok); (· rfl)) | with_reducible apply J24); (· (simp only [push_cast, ↓JP, Nat.reduceAdd, Nat.reduceEqDiff, Nat.reduceLT, Nat.reduceMul, Nat.reduceLeDiff, reduceCtorEq, reduceIte, ↓JK, JE, prc_eta, cA0, sPCheck, sTakes, sPCopy, sKCmp, rHs, pcS, prO, i64O, inO, evm_ev, rHaB, rHaG, donP, dnI, isIns_insS, isI_int, isEvt_evtS, evtOf_evtS, ls_evtsS, ls_evtsS', nodupN, memN, inR, inN, ↓evtS_sz, ↓evtS_ag, ↓evtS_pl, nav_evt, nav_evt0, nav_evt1, nav_evt2, rul_eta, ls_zero, JB, dnS, dnR, dnB, evO_, dn0, evtsS, dnn_eta, hE0]; rfl)); (try kernel_rfl); (try exact Vm.b103)) | fail)
  refine WF.loopAt (fun (j : Nat) => j ≤ l.length) (fun (j : Nat) => [(2, .sl 7 8 [] 5 0 l.length (some p4)), (3, .ptr 9 []), (4, .ptr 10 []), (6, .ptr 11 []), (26, .sl 7 8 [] 5 0 l.length (some p4)), (27, .nat .i64 l.length), (28, .nat .i64 j)]) (fun (j : Nat) => [.gone, .gone, .ro (.arr p.P.length 5 (prS p.P)), .gone, .ro (.arr p.cells.length 1 (i64S p.cells)), .gone, .ro (.arr p.ports.length 1 (i64S p.ports)), .gone, .ro (.arr l.length 5 (evtsS l)), .own 80 (.agg [.int .u64 r.seed, .int .i64 r.ahead, .int .i64 r.fuel]) true, .own 82 (.agg [.int .i64 p.id, .sl 1 2 [] 5 0 p.P.length (some p1), .sl 3 4 [] 1 0 p.cells.length (some p2), .int .i64 p.draws, .int .i64 p.seq, .sl 5 6 [] 1 0 p.ports.length (some p3)]) true, .own 87 dn0 true]) (fun (j : Nat) => l.length - j) 0 (Nat.zero_le _) ?_ ?_ rfl ?_ ?_ rfl ?_
  · exact Vm.b10
  · exact Vm.b7
  · exact Vm.b102
  · exact Vm.b102
  intro j hj
  by_cases hjl : j < l.length
  · have hbj := hB j hjl
    obtain ⟨hT, hK⟩ := badAt_zero hbj
    by_cases hj0 : 0 < j
    · have hK := hK hj0
      have hjm : ((j : Int) - 1).toNat = j - 1 := by omega
      repeat' (first | with_reducible (first | apply J1 | apply J3 | apply J4 | apply J5 | apply J6 | apply J7 | apply J8 | apply J9 | apply J10 | apply J11 | apply J12 | apply J13 | apply J14 | apply J15 | apply J16 | apply J17 | apply J18 | apply J19 | apply J20 | refine J2 ?_) | ((with_reducible apply J21); (· rfl)) | ((with_reducible intro hif); first | (focus (cases hif; done)) | (simp only [JH] at hif; try (exfalso; omega)) | (try (exfalso; omega))) | ((first | ((with_reducible apply J22 cA0_ok tab_ok); (· rfl)) | ((with_reducible apply J23 fol cA0_ok tab_ok); (· rfl)) | with_reducible apply J24); (· (simp only [push_cast, ↓JP, Nat.reduceAdd, Nat.reduceEqDiff, Nat.reduceLT, Nat.reduceMul, Nat.reduceLeDiff, reduceCtorEq, reduceIte, ↓JK, JE, prc_eta, cA0, sPCheck, sTakes, sPCopy, sKCmp, rHs, pcS, prO, i64O, inO, evm_ev, rHaB, rHaG, donP, dnI, isIns_insS, isI_int, isEvt_evtS, evtOf_evtS, ls_evtsS, ls_evtsS', nodupN, memN, inR, inN, ↓evtS_sz, ↓evtS_ag, ↓evtS_pl, nav_evt, nav_evt0, nav_evt1, nav_evt2, rul_eta, ls_zero, JB, dnS, dnR, dnB, evO_, dn0, evtsS, dnn_eta, hjl, hT, hj0, hjm, hK]; rfl)); (try kernel_rfl); (try exact Vm.b103)) | fail)
      refine At.next (j + 1) ?_ ?_ ?_ rfl ?_ ?_ rfl
      · omega
      · exact Vm.b10
      · exact Vm.b7
      · exact Vm.b102
      · exact Vm.b102
    · obtain rfl : j = 0 := by omega
      repeat' (first | with_reducible (first | apply J1 | apply J3 | apply J4 | apply J5 | apply J6 | apply J7 | apply J8 | apply J9 | apply J10 | apply J11 | apply J12 | apply J13 | apply J14 | apply J15 | apply J16 | apply J17 | apply J18 | apply J19 | apply J20 | refine J2 ?_) | ((with_reducible apply J21); (· rfl)) | ((with_reducible intro hif); first | (focus (cases hif; done)) | (simp only [JH] at hif; try (exfalso; omega)) | (try (exfalso; omega))) | ((first | ((with_reducible apply J22 cA0_ok tab_ok); (· rfl)) | ((with_reducible apply J23 fol cA0_ok tab_ok); (· rfl)) | with_reducible apply J24); (· (simp only [push_cast, ↓JP, Nat.reduceAdd, Nat.reduceEqDiff, Nat.reduceLT, Nat.reduceMul, Nat.reduceLeDiff, reduceCtorEq, reduceIte, ↓JK, JE, prc_eta, cA0, sPCheck, sTakes, sPCopy, sKCmp, rHs, pcS, prO, i64O, inO, evm_ev, rHaB, rHaG, donP, dnI, isIns_insS, isI_int, isEvt_evtS, evtOf_evtS, ls_evtsS, ls_evtsS', nodupN, memN, inR, inN, ↓evtS_sz, ↓evtS_ag, ↓evtS_pl, nav_evt, nav_evt0, nav_evt1, nav_evt2, rul_eta, ls_zero, JB, dnS, dnR, dnB, evO_, dn0, evtsS, dnn_eta, hjl, hT]; rfl)); (try kernel_rfl); (try exact Vm.b103)) | fail)
      refine At.next (0 + 1) ?_ ?_ ?_ rfl ?_ ?_ rfl
      · omega
      · exact Vm.b10
      · exact Vm.b7
      · exact Vm.b102
      · exact Vm.b102
  · obtain rfl : j = l.length := by omega
    repeat' (first | with_reducible (first | apply J1 | apply J3 | apply J4 | apply J5 | apply J6 | apply J7 | apply J8 | apply J9 | apply J10 | apply J11 | apply J12 | apply J13 | apply J14 | apply J15 | apply J16 | apply J17 | apply J18 | apply J19 | apply J20 | refine J2 ?_) | ((with_reducible apply J21); (· rfl)) | ((with_reducible intro hif); first | (focus (cases hif; done)) | (simp only [JH] at hif; try (exfalso; omega)) | (try (exfalso; omega))) | ((first | ((with_reducible apply J22 cA0_ok tab_ok); (· rfl)) | ((with_reducible apply J23 fol cA0_ok tab_ok); (· rfl)) | with_reducible apply J24); (· exact Vm.b110); (try kernel_rfl); (try exact Vm.b103)) | fail)
    refine WF.nilIn 39 5 (evtsS []) 15 87 (.agg [.agg [.int .i64 p.id, .sl 12 12 [] 5 0 p.P.length none, .sl 13 13 [] 1 0 p.cells.length none, .int .i64 p.draws, .int .i64 p.seq, .sl 14 14 [] 1 0 p.ports.length none], .sl 0 0 [] 0 0 0 (some 0), .nat .i64 0]) (dnR p.id p.draws p.seq p.P.length p.cells.length p.ports.length 0 0 12 13 14 21) true (fun _ q => evtsS_stable q) rfl (fun β b0 hβ => by
        have e := nil_cl (k := 5) b0 (show β 21 = (none, 0) from hβ)
        simp only [dnR, SV.cl, SV.den, denL] at e ⊢
        rw [e]) (fun h hb => by
        have k11 := hb 12 (show (12 : Nat) ≤ 21 by decide)
        have k12 := hb 13 (show (13 : Nat) ≤ 21 by decide)
        have k13 := hb 14 (show (14 : Nat) ≤ 21 by decide)
        have k15 := hb 21 (show (21 : Nat) ≤ 21 by decide)
        simp [dnR, Stable, StableL, k11, k12, k13, k15]) rfl (fun n k f e => by cases e) (fun n k f e => by cases e) rfl ?_
    simp only [setH, List.cons_append, List.nil_append]
    with_reducible apply WF.range (fn' := Try.f85) 23
    · exact Vm.b53
    · exact Vm.b21
    · rfl
    · rfl
    · rfl
    · rfl
    · rfl
    · rfl
    · rfl
    intro E1 rec tmps after hE1 hrec hcf haft
    repeat' (first | with_reducible (first | apply J1 | apply J3 | apply J4 | apply J5 | apply J6 | apply J7 | apply J8 | apply J9 | apply J10 | apply J11 | apply J12 | apply J13 | apply J14 | apply J15 | apply J16 | apply J17 | apply J18 | apply J19 | apply J20 | refine J2 ?_) | ((with_reducible apply J21); (· rfl)) | ((with_reducible intro hif); first | (focus (cases hif; done)) | (simp only [JH] at hif; try (exfalso; omega)) | (try (exfalso; omega))) | ((first | ((with_reducible apply J22 cA0_ok tab_ok); (· rfl)) | ((with_reducible apply J23 fol cA0_ok tab_ok); (· rfl)) | with_reducible apply J24); (· exact Vm.b110); (try kernel_rfl); (try exact Vm.b103)) | fail)
    refine At.pick (L2 := [.gone, .gone, .ro (.arr p.P.length 5 (prS p.P)), .gone, .ro (.arr p.cells.length 1 (i64S p.cells)), .gone, .ro (.arr p.ports.length 1 (i64S p.ports)), .gone, .ro (.arr l.length 5 (evtsS l)), .own 80 (.agg [.int .u64 r.seed, .int .i64 r.ahead, .int .i64 r.fuel]) true, .own 82 (.agg [.int .i64 p.id, .sl 1 2 [] 5 0 p.P.length (some p1), .sl 3 4 [] 1 0 p.cells.length (some p2), .int .i64 p.draws, .int .i64 p.seq, .sl 5 6 [] 1 0 p.ports.length (some p3)]) true, .own 87 dn0 true, prO (⟨p, [], 0⟩ : Dn).p.P, .gone, inO (⟨p, [], 0⟩ : Dn).p.ports, dnB (⟨p, [], 0⟩ : Dn) 12 24 14 25, .own 3 (.int .i64 (-1)) true, .own 46 (.nat .i64 0) true, .own 136 (.ptr 15 []) true, .own 80 (.agg [.int .u64 r.seed, .int .i64 r.ahead, .int .i64 r.fuel]) true, .own 83 (.sl 7 8 [] 5 0 l.length (some p4)) true, .gone, .raw (.deferred (some [])), .raw (.loop (rec .ready none)), i64O (⟨p, [], 0⟩ : Dn).p.cells, evO_ (⟨p, [], 0⟩ : Dn).sent]) (φ2 := [(0, .yl 23), (1, .ptr 20 []), (2, .ptr 18 []), (3, .ptr 19 []), (7, .sl 7 8 [] 5 0 l.length (some p4)), (8, .nat .i64 l.length), (9, .nat .i64 0)]) [0, 1, 2, 3, 4, 5, 6, 7, 8, 9, 10, 11, 12, 13, 14, 15, 16, 17, 18, 19, 20, 21, 22, 23, 13, 21] rfl rfl rfl ?_ rfl ?_ ?_ ?_ rfl ?_
    · exact Vm.b35
    · exact Vm.b102
    · exact Vm.b62
    · exact Vm.b102
    refine WF.loopAt (fun (z : KD) => z.k ≤ k0 ∧ foldD r (⟨p, [], 0⟩ : Dn) (l.take z.k) = z.D) (fun (z : KD) => [(0, .yl 23), (1, .ptr 20 []), (2, .ptr 18 []), (3, .ptr 19 []), (7, .sl 7 8 [] 5 0 l.length (some p4)), (8, .nat .i64 l.length), (9, .nat .i64 z.k)]) (fun (z : KD) => [.gone, .gone, .ro (.arr p.P.length 5 (prS p.P)), .gone, .ro (.arr p.cells.length 1 (i64S p.cells)), .gone, .ro (.arr p.ports.length 1 (i64S p.ports)), .gone, .ro (.arr l.length 5 (evtsS l)), .own 80 (.agg [.int .u64 r.seed, .int .i64 r.ahead, .int .i64 r.fuel]) true, .own 82 (.agg [.int .i64 p.id, .sl 1 2 [] 5 0 p.P.length (some p1), .sl 3 4 [] 1 0 p.cells.length (some p2), .int .i64 p.draws, .int .i64 p.seq, .sl 5 6 [] 1 0 p.ports.length (some p3)]) true, .own 87 dn0 true, prO z.D.p.P, .gone, inO z.D.p.ports, dnB z.D 12 24 14 25, .own 3 (.int .i64 (-1)) true, .own 46 (.nat .i64 0) true, .own 136 (.ptr 15 []) true, .own 80 (.agg [.int .u64 r.seed, .int .i64 r.ahead, .int .i64 r.fuel]) true, .own 83 (.sl 7 8 [] 5 0 l.length (some p4)) true, .gone, .raw (.deferred (some [])), .raw (.loop (rec .ready none)), i64O z.D.p.cells, evO_ z.D.sent]) (fun (z : KD) => k0 - z.k) ⟨0, (⟨p, [], 0⟩ : Dn)⟩ ⟨Nat.zero_le _, rfl⟩ ?_ ?_ rfl ?_ ?_ rfl ?_
    · exact Vm.b10
    · exact Vm.b7
    · exact Vm.b102
    · exact Vm.b102
    rintro ⟨k, D⟩ ⟨hk, hD⟩
    dsimp only at hk hD ⊢
    by_cases hkA : k < k0
    · have hkl : k < l.length := by omega
      have hFI := fi_all hE0 hok hB k (by omega) (fun i hi => hAll i (by omega))
      rw [hD] at hFI
      obtain ⟨e, he⟩ : ∃ e, l.getD k ⟨0, 0, 0, 0, 0⟩ = e := ⟨_, rfl⟩
      have hT : takesB p e = true := by rw [← he]; exact badAt_takes (hB k hkl)
      have hGk := hFI.hg (procE_zero hE0).1 hok hT
      have hus := hFI.us
      have hsu := hFI.su
      have hrf := of_decide_eq_true (show decide _ = true from (procE_zero hE0).1)
      have hmul : r.fuel * (k : Int) ≤ 4096 * 200 := Int.le_trans (Int.mul_le_mul_of_nonneg_right hrf.2.2.2 (by omega)) (by omega)
      have hsl : D.sent.length ≤ 1000000 := by omega
      have hul : D.used ≤ 1000000000 := by omega
      have h0 : hE r D.p e = 0 := by
        have := hAll k hkA
        rw [hD, he] at this
        exact this
      have hD' : foldD r (⟨p, [], 0⟩ : Dn) (l.take (k + 1)) = hS r D e := by rw [take_snoc ⟨0, 0, 0, 0, 0⟩ hkl, foldD_snoc, hD, he]

      repeat' (first | with_reducible (first | apply J1 | apply J3 | apply J4 | apply J5 | apply J6 | apply J7 | apply J8 | apply J9 | apply J10 | apply J11 | apply J12 | apply J13 | apply J14 | apply J15 | apply J16 | apply J17 | apply J18 | apply J19 | apply J20 | refine J2 ?_) | ((with_reducible apply J21); (· rfl)) | ((with_reducible intro hif); first | (focus (cases hif; done)) | (simp only [JH] at hif; try (exfalso; omega)) | (try (exfalso; omega))) | ((first | ((with_reducible apply J22 cAG_ok tab_ok); (· rfl)) | ((with_reducible apply J23 fol cAG_ok tab_ok); (· rfl)) | with_reducible apply J24); (· exact Vm.b111); (try kernel_rfl); (try exact Vm.b103)) | fail)
      with_reducible apply WF.split 6 1
      · rfl
      with_reducible apply At.run cAG_ok tab_ok
      · rfl
      · rfl
      · rfl
      · exact Vm.b105
      · exact Vm.b106
      with_reducible apply At.yield (gr := _)
      · rfl
      · rfl
      · rfl
      · rfl
      · rfl
      · rfl
      · exact Vm.b105
      · exact Vm.b107
      · exact Vm.b105
      · exact Vm.b106
      · exact Vm.b105
      · exact Vm.b106
      · exact Vm.b107
      · exact hrec
      · exact hcf
      · rfl
      · rfl
      · rfl
      intro lb E2 next hE2 hnext
      repeat' (first | with_reducible (first | apply J1 | apply J3 | apply J4 | apply J5 | apply J6 | apply J7 | apply J8 | apply J9 | apply J10 | apply J11 | apply J12 | apply J13 | apply J14 | apply J15 | apply J16 | apply J17 | apply J18 | apply J19 | apply J20 | refine J2 ?_) | ((with_reducible apply J21); (· rfl)) | ((with_reducible intro hif); first | (focus (cases hif; done)) | (simp only [JH] at hif; try (exfalso; omega)) | (try (exfalso; omega))) | ((first | ((with_reducible apply J22 cAG_ok tab_ok); (· rfl)) | ((with_reducible apply J23 fol cAG_ok tab_ok); (· rfl)) | with_reducible apply J24); (· exact Vm.b111); (try kernel_rfl); (try exact Vm.b103)) | fail)
      with_reducible apply At.begins hrec
      · rfl
      with_reducible refine At.code ?_
      repeat' (first | with_reducible (first | apply J1 | apply J3 | apply J4 | apply J5 | apply J6 | apply J7 | apply J8 | apply J9 | apply J10 | apply J11 | apply J12 | apply J13 | apply J14 | apply J15 | apply J16 | apply J17 | apply J18 | apply J19 | apply J20 | refine J2 ?_) | ((with_reducible apply J21); (· rfl)) | ((with_reducible intro hif); first | (focus (cases hif; done)) | (simp only [JH] at hif; try (exfalso; omega)) | (try (exfalso; omega))) | ((first | ((with_reducible apply J22 cAG_ok tab_ok); (· rfl)) | ((with_reducible apply J23 fol cAG_ok tab_ok); (· rfl)) | with_reducible apply J24); (· exact Vm.b111); (try kernel_rfl); (try exact Vm.b103)) | fail)
      with_reducible apply At.roundNormal
      · exact Vm.b107
      apply hnext
      with_reducible apply At.runEnd cAG_ok tab_ok
      · rfl
      · rfl
      · rfl
      · exact Vm.b105
      · exact Vm.b106
      repeat' (first | with_reducible (first | apply J1 | apply J3 | apply J4 | apply J5 | apply J6 | apply J7 | apply J8 | apply J9 | apply J10 | apply J11 | apply J12 | apply J13 | apply J14 | apply J15 | apply J16 | apply J17 | apply J18 | apply J19 | apply J20 | refine J2 ?_) | ((with_reducible apply J21); (· rfl)) | ((with_reducible intro hif); first | (focus (cases hif; done)) | (simp only [JH] at hif; try (exfalso; omega)) | (try (exfalso; omega))) | ((first | ((with_reducible apply J22 cAG_ok tab_ok); (· rfl)) | ((with_reducible apply J23 fol cAG_ok tab_ok); (· rfl)) | with_reducible apply J24); (· exact Vm.b111); (try kernel_rfl); (try exact Vm.b103)) | fail)
      refine At.nextPick [0, 1, 2, 3, 4, 5, 6, 7, 8, 9, 10, 11, 12, 13, 14, 15, 16, 17, 18, 19, 20, 21, 22, 23, 27, 28] ⟨k + 1, hS r D e⟩ ?_ rfl rfl rfl ?_ rfl ?_ ?_ ?_ rfl
      · dsimp only; exact ⟨⟨by omega, hD'⟩, by omega⟩
      · exact Vm.b35
      · exact Vm.b102
      · exact Vm.b62
      · exact Vm.b102
    · obtain rfl : k = k0 := by omega
      rcases hc0 with ⟨rfl, rfl, rfl⟩ | ⟨hkl, hk1, rfl, rfl⟩
      · rw [List.take_length] at hD

        repeat' (first | with_reducible (first | apply J1 | apply J3 | apply J4 | apply J5 | apply J6 | apply J7 | apply J8 | apply J9 | apply J10 | apply J11 | apply J12 | apply J13 | apply J14 | apply J15 | apply J16 | apply J17 | apply J18 | apply J19 | apply J20 | refine J2 ?_) | ((with_reducible apply J21); (· rfl)) | ((with_reducible intro hif); first | (focus (cases hif; done)) | (simp only [JH] at hif; try (exfalso; omega)) | (try (exfalso; omega))) | ((first | ((with_reducible apply J22 cA0_ok tab_ok); (· rfl)) | ((with_reducible apply J23 fol cA0_ok tab_ok); (· rfl)) | with_reducible apply J24); (· exact Vm.b110); (try kernel_rfl); (try exact Vm.b103)) | fail)
        with_reducible apply At.itNormal .ready
        · rfl
        · rfl
        · intro h; cases h
        apply haft
        intro w1 M1 D1 hA
        dsimp only
        repeat' (first | with_reducible (first | apply J1 | apply J3 | apply J4 | apply J5 | apply J6 | apply J7 | apply J8 | apply J9 | apply J10 | apply J11 | apply J12 | apply J13 | apply J14 | apply J15 | apply J16 | apply J17 | apply J18 | apply J19 | apply J20 | refine J2 ?_) | ((with_reducible apply J21); (· rfl)) | ((with_reducible intro hif); first | (focus (cases hif; done)) | (simp only [JH] at hif; try (exfalso; omega)) | (try (exfalso; omega))) | ((first | ((with_reducible apply J22 cA0_ok tab_ok); (· rfl)) | ((with_reducible apply J23 fol cA0_ok tab_ok); (· rfl)) | with_reducible apply J24); (· exact Vm.b110); (try kernel_rfl); (try exact Vm.b103)) | fail)
        apply At.endsPick [0, 1, 2, 3, 4, 5, 6, 7, 8, 12, 24, 14, 25] tab_ok (fn := Try.f32) (rs := [.cell 6 87, .tmp 7, .tmp 8]) hA hro (Nat.le_of_ble_eq_true rfl) rfl
        · exact Vm.b15
        · exact Vm.b21
        · rfl
        · rfl
        · rfl
        · (repeat' (first | exact trivial | exact .inl rfl | exact .inr (.same _) | exact .inr .loose | exact .inr (.arr (by assumption)) | apply And.intro | (rw [hD]; exact .inr (.same _))))
        · rfl
        · exact Vm.b102
        · exact Vm.b9
        · rw [hD]; exact fun β => rfl
        · exact Vm.b102
      · skip
        have hFI := fi_all hE0 hok hB k (by omega) (fun i hi => hAll i (by omega))
        rw [hD] at hFI
        obtain ⟨e, he⟩ : ∃ e, l.getD k ⟨0, 0, 0, 0, 0⟩ = e := ⟨_, rfl⟩
        have hT : takesB p e = true := by rw [← he]; exact badAt_takes (hB k hkl)
        have hGk := hFI.hg (procE_zero hE0).1 hok hT
        have hus := hFI.us
        have hsu := hFI.su
        have hrf := of_decide_eq_true (show decide _ = true from (procE_zero hE0).1)
        have hmul : r.fuel * (k : Int) ≤ 4096 * 200 := Int.le_trans (Int.mul_le_mul_of_nonneg_right hrf.2.2.2 (by omega)) (by omega)
        have hsl : D.sent.length ≤ 1000000 := by omega
        have hul : D.used ≤ 1000000000 := by omega
        rw [hD, he] at hk1

        repeat' (first | with_reducible (first | apply J1 | apply J3 | apply J4 | apply J5 | apply J6 | apply J7 | apply J8 | apply J9 | apply J10 | apply J11 | apply J12 | apply J13 | apply J14 | apply J15 | apply J16 | apply J17 | apply J18 | apply J19 | apply J20 | refine J2 ?_) | ((with_reducible apply J21); (· rfl)) | ((with_reducible intro hif); first | (focus (cases hif; done)) | (simp only [JH] at hif; try (exfalso; omega)) | (try (exfalso; omega))) | ((first | ((with_reducible apply J22 cAB_ok tab_ok); (· rfl)) | ((with_reducible apply J23 fol cAB_ok tab_ok); (· rfl)) | with_reducible apply J24); (· exact Vm.b112); (try kernel_rfl); (try exact Vm.b103)) | fail)
        with_reducible apply WF.split 6 1
        · rfl
        with_reducible apply At.run cAB_ok tab_ok
        · rfl
        · rfl
        · rfl
        · exact Vm.b108
        · exact Vm.b106
        with_reducible apply At.yield (gr := _)
        · rfl
        · rfl
        · rfl
        · rfl
        · rfl
        · rfl
        · exact Vm.b108
        · exact Vm.b109
        · exact Vm.b108
        · exact Vm.b106
        · exact Vm.b108
        · exact Vm.b106
        · exact Vm.b109
        · exact hrec
        · exact hcf
        · rfl
        · rfl
        · rfl
        intro lb E2 next hE2 hnext
        repeat' (first | with_reducible (first | apply J1 | apply J3 | apply J4 | apply J5 | apply J6 | apply J7 | apply J8 | apply J9 | apply J10 | apply J11 | apply J12 | apply J13 | apply J14 | apply J15 | apply J16 | apply J17 | apply J18 | apply J19 | apply J20 | refine J2 ?_) | ((with_reducible apply J21); (· rfl)) | ((with_reducible intro hif); first | (focus (cases hif; done)) | (simp only [JH] at hif; try (exfalso; omega)) | (try (exfalso; omega))) | ((first | ((with_reducible apply J22 cAB_ok tab_ok); (· rfl)) | ((with_reducible apply J23 fol cAB_ok tab_ok); (· rfl)) | with_reducible apply J24); (· exact Vm.b112); (try kernel_rfl); (try exact Vm.b103)) | fail)
        with_reducible apply At.begins hrec
        · rfl
        with_reducible refine At.code ?_
        repeat' (first | with_reducible (first | apply J1 | apply J3 | apply J4 | apply J5 | apply J6 | apply J7 | apply J8 | apply J9 | apply J10 | apply J11 | apply J12 | apply J13 | apply J14 | apply J15 | apply J16 | apply J17 | apply J18 | apply J19 | apply J20 | refine J2 ?_) | ((with_reducible apply J21); (· rfl)) | ((with_reducible intro hif); first | (focus (cases hif; done)) | (simp only [JH] at hif; try (exfalso; omega)) | (try (exfalso; omega))) | ((first | ((with_reducible apply J22 cAB_ok tab_ok); (· rfl)) | ((with_reducible apply J23 fol cAB_ok tab_ok); (· rfl)) | with_reducible apply J24); (· exact Vm.b112); (try kernel_rfl); (try exact Vm.b103)) | fail)
        with_reducible apply At.roundExit
        · exact Vm.b109
        apply hnext
        with_reducible apply At.runEnd cAB_ok tab_ok
        · rfl
        · rfl
        · rfl
        · exact Vm.b108
        · exact Vm.b106
        repeat' (first | with_reducible (first | apply J1 | apply J3 | apply J4 | apply J5 | apply J6 | apply J7 | apply J8 | apply J9 | apply J10 | apply J11 | apply J12 | apply J13 | apply J14 | apply J15 | apply J16 | apply J17 | apply J18 | apply J19 | apply J20 | refine J2 ?_) | ((with_reducible apply J21); (· rfl)) | ((with_reducible intro hif); first | (focus (cases hif; done)) | (simp only [JH] at hif; try (exfalso; omega)) | (try (exfalso; omega))) | ((first | ((with_reducible apply J22 cAB_ok tab_ok); (· rfl)) | ((with_reducible apply J23 fol cAB_ok tab_ok); (· rfl)) | with_reducible apply J24); (· exact Vm.b112); (try kernel_rfl); (try exact Vm.b103)) | fail)
        with_reducible apply At.itRet .done
        · rfl
        · rfl
        · intro h; cases h
        apply haft
        intro w1 M1 D1 hA
        dsimp only
        repeat' (first | with_reducible (first | apply J1 | apply J3 | apply J4 | apply J5 | apply J6 | apply J7 | apply J8 | apply J9 | apply J10 | apply J11 | apply J12 | apply J13 | apply J14 | apply J15 | apply J16 | apply J17 | apply J18 | apply J19 | apply J20 | refine J2 ?_) | ((with_reducible apply J21); (· rfl)) | ((with_reducible intro hif); first | (focus (cases hif; done)) | (simp only [JH] at hif; try (exfalso; omega)) | (try (exfalso; omega))) | ((first | ((with_reducible apply J22 cAB_ok tab_ok); (· rfl)) | ((with_reducible apply J23 fol cAB_ok tab_ok); (· rfl)) | with_reducible apply J24); (· (simp only [push_cast, ↓JP, Nat.reduceAdd, Nat.reduceEqDiff, Nat.reduceLT, Nat.reduceMul, Nat.reduceLeDiff, reduceCtorEq, reduceIte, ↓JK, JE, prc_eta, cAB, sPCheck, sTakes, sPCopy, sKCmp, rHs, pcS, prO, i64O, inO, evm_ev, rHaB, rHaG, donP, dnI, isIns_insS, isI_int, isEvt_evtS, evtOf_evtS, ls_evtsS, ls_evtsS', nodupN, memN, inR, inN, ↓evtS_sz, ↓evtS_ag, ↓evtS_pl, nav_evt, nav_evt0, nav_evt1, nav_evt2, rul_eta, ls_zero, JB, dnS, dnR, dnB, evO_, dn0, evtsS, dnn_eta, hk1]; rfl)); (try kernel_rfl); (try exact Vm.b103)) | fail)
        apply At.endsRet tab_ok (fn := Try.f32) (rs := [.cell 6 87, .tmp 7, .tmp 8]) hA hro (Nat.le_of_ble_eq_true rfl) rfl
        · exact Vm.b15
        · exact Vm.b6
        · exact Vm.b7
        · rfl
        · exact Vm.b102
        · exact Vm.b9
        · rw [hD, he]; exact fun β => rfl
        · exact Vm.b102
theorem all_fail (r : Rul) (p : Prc) (l : List Evt) (p1 p2 p3 p4 : Nat) (hok : ∀ x ∈ p.P, x.ok) (hn : p.P.length ≤ 1000000) (hc : p.cells.length ≤ 1000000) (hpo : p.ports.length ≤ 1000000) (hll : l.length ≤ 200) (hE0 : procE r p = 0) (hB : ∀ q, q < l.length → badAt p l q = 0) (k0 : Nat) (hk0 : k0 < l.length) (hAll : AllK r ⟨p, [], 0⟩ l k0) (hk1 : hE r (foldD r ⟨p, [], 0⟩ (l.take k0)).p (l.getD k0 ⟨0, 0, 0, 0, 0⟩) ≠ 0) : LitOk Try.prog 32 [.agg [.int .u64 r.seed, .int .i64 r.ahead, .int .i64 r.fuel], .agg [.int .i64 p.id, .sl 1 2 [] 5 0 p.P.length (some p1), .sl 3 4 [] 1 0 p.cells.length (some p2), .int .i64 p.draws, .int .i64 p.seq, .sl 5 6 [] 1 0 p.ports.length (some p3)], .sl 7 8 [] 5 0 l.length (some p4)]
    [.gone, .gone, .ro (.arr p.P.length 5 (prS p.P)), .gone, .ro (.arr p.cells.length 1 (i64S p.cells)), .gone, .ro (.arr p.ports.length 1 (i64S p.ports)), .gone, .ro (.arr l.length 5 (evtsS l))]
    (.tup [dn0, .nat .i64 k0, .int .i64 (hE r (foldD r ⟨p, [], 0⟩ (l.take k0)).p (l.getD k0 ⟨0, 0, 0, 0, 0⟩))]) [.gone] :=
  all_gen r p l p1 p2 p3 p4 hok hn hc hpo hll hE0 hB k0 (by omega) hAll _ _ (.inr ⟨hk0, hk1, rfl, rfl⟩)
theorem all_ok (r : Rul) (p : Prc) (l : List Evt) (p1 p2 p3 p4 : Nat) (hok : ∀ x ∈ p.P, x.ok) (hn : p.P.length ≤ 1000000) (hc : p.cells.length ≤ 1000000) (hpo : p.ports.length ≤ 1000000) (hll : l.length ≤ 200) (hE0 : procE r p = 0) (hB : ∀ q, q < l.length → badAt p l q = 0) (hAll : AllK r ⟨p, [], 0⟩ l l.length) : LitOk Try.prog 32 [.agg [.int .u64 r.seed, .int .i64 r.ahead, .int .i64 r.fuel], .agg [.int .i64 p.id, .sl 1 2 [] 5 0 p.P.length (some p1), .sl 3 4 [] 1 0 p.cells.length (some p2), .int .i64 p.draws, .int .i64 p.seq, .sl 5 6 [] 1 0 p.ports.length (some p3)], .sl 7 8 [] 5 0 l.length (some p4)]
    [.gone, .gone, .ro (.arr p.P.length 5 (prS p.P)), .gone, .ro (.arr p.cells.length 1 (i64S p.cells)), .gone, .ro (.arr p.ports.length 1 (i64S p.ports)), .gone, .ro (.arr l.length 5 (evtsS l))]
    (.tup [dnS (foldD r ⟨p, [], 0⟩ l) 9 10 11 12, .int .i64 (-1), .int .i64 0]) [.gone, .gone, .gone, .gone, .gone, .gone, .gone, .gone, .gone, prO (foldD r ⟨p, [], 0⟩ l).p.P, i64O (foldD r ⟨p, [], 0⟩ l).p.cells, inO (foldD r ⟨p, [], 0⟩ l).p.ports, evO_ (foldD r ⟨p, [], 0⟩ l).sent] :=
  all_gen r p l p1 p2 p3 p4 hok hn hc hpo hll hE0 hB l.length (Nat.le_refl _) hAll _ _ (.inl ⟨rfl, rfl, rfl⟩)
end Go.Proofs.Ytjliakjbdcplcaa.Vm
end

section
namespace Go.Proofs.Ytjliakjbdcplcaa.Vm
open Go.RowKit
set_option linter.unusedVariables false
set_option linter.unusedSimpArgs false
set_option maxRecDepth 100000
set_option maxHeartbeats 4000000
end Go.Proofs.Ytjliakjbdcplcaa.Vm
end

section
namespace Go.Proofs.Ytjliakjbdcplcaa.Vm
open Go.RowKit
set_option linter.unusedVariables false
set_option linter.unusedSimpArgs false
set_option maxRecDepth 100000
set_option maxHeartbeats 4000000
end Go.Proofs.Ytjliakjbdcplcaa.Vm
end

section
namespace Go.Proofs.Ytjliakjbdcplcaa.Vm
open Go.RowKit
set_option linter.unusedVariables false
set_option linter.unusedSimpArgs false
set_option maxRecDepth 100000
set_option maxHeartbeats 4000000
def pcR (id dr sq : Int) (n1 n2 n3 i c q : Nat) : SV := .agg [.int .i64 id, .sl i i [] 5 0 n1 none, .sl c c [] 1 0 n2 none, .int .i64 dr, .int .i64 sq, .sl q q [] 1 0 n3 none]
structure PcI where
  id : Int
  dr : Int
  sq : Int
  n1 : Nat
  n2 : Nat
  n3 : Nat
  i : Nat
  c : Nat
  q : Nat
def PcI.v (y : PcI) : SV := pcR y.id y.dr y.sq y.n1 y.n2 y.n3 y.i y.c y.q
def PcI.at_ (y : PcI) (i c q : Nat) : SV := pcR y.id y.dr y.sq y.n1 y.n2 y.n3 i c q
end Go.Proofs.Ytjliakjbdcplcaa.Vm
end
end

section
namespace Go.Proofs.Ytjliakjbdcplcaa.Vm
open Go.RowKit
set_option linter.unusedVariables false
set_option linter.unusedSimpArgs false
theorem oneE_of {r : Rul} {p : Prc} {e : Evt} (h : procE r p = 0) (ht : takesB p e = true) : oneE r p e = hE r p e := by
  unfold oneE
  rw [if_neg (fun g => g h), if_neg (by rw [ht]; exact Bool.noConfusion)]
theorem sentL_getD (p : Prc) (t : Int) : ∀ (l : List Snd) (q : Int) (i : Nat), i < l.length → (sentL p t q l).getD i ⟨0, 0, 0, 0, 0⟩ = ⟨t + (l.getD i ⟨0, 0, 0⟩).delay, p.id, q + (i : Int), p.ports.getD (l.getD i ⟨0, 0, 0⟩).port.toNat 0, (l.getD i ⟨0, 0, 0⟩).value⟩
  | [], _, i, hi => absurd hi (Nat.not_lt_zero i)
  | s :: l, q, 0, _ => by simp [sentL]
  | s :: l, q, i + 1, hi => by
    have := sentL_getD p t l (q + 1) i (by simp at hi; omega)
    simp only [sentL, List.getD_cons_succ, this]
    congr 1
    omega
end Go.Proofs.Ytjliakjbdcplcaa.Vm
end

section
namespace Go.Proofs.Ytjliakjbdcplcaa.Vm
open Go.RowKit
set_option linter.unusedVariables false
set_option linter.unusedSimpArgs false
end Go.Proofs.Ytjliakjbdcplcaa.Vm
end

section
namespace Go.Proofs.Ytjliakjbdcplcaa.Vm
open Go.RowKit
attribute [local push_cast] runR opG gtmp gval gus opX tmpsOf tm tmO tmP restr look look2 tab tys zs ets eqB eqBL allB numOf ieq Int.cast_ofNat_Int Int.ofNat_zero beq_true beq_false frameOf ev evL ofV opV loadV noW pushF wrsL setH allBorn allGone HB.born HB.isGone HB.val SV.plain dstOk hp nav fitsT SV.size sizeL SV.isAgg TK.size TK.agg bin binE binN binI arN arI cmpN cmpI keq kn narrow callV storeV setp fillV buildV buildSliceV makeV sliceV appendV appendFV slice3V copyV List.isEmpty_nil srcV evO asN ite_t ite_f ite_bool ite_int ite_nat maxV v_beq v_ble v_blt cond_true cond_false List.getElem?_cons_zero List.getElem?_cons_succ List.getD_cons_zero List.getD_cons_succ List.getD_nil List.length_cons List.length_nil List.take_succ_cons List.take_zero List.set_cons_zero List.set_cons_succ List.cons_append List.nil_append List.append_assoc List.replicate_succ List.replicate_zero Nat.zero_add Nat.add_zero decide_true decide_false Bool.true_and Bool.and_true Bool.false_and Bool.and_false Bool.true_or Bool.or_true Bool.false_or Bool.or_false beq_self_eq_true Bool.or_self Nat.lt_irrefl Nat.not_lt_zero Nat.le_refl Option.getD_some Option.getD_none BEq.rfl Bool.not_true Bool.not_false Bool.cond_true_left Bool.cond_false_right
set_option linter.unusedVariables false
set_option linter.unusedSimpArgs false
set_option maxRecDepth 100000
set_option maxHeartbeats 4000000
theorem smEvt_lit (xs ys : List Evt) (p1 p2 : Nat) (hx : xs.length ≤ 281474976710656) : LitOk Try.prog 88 [.sl 1 2 [] 5 0 xs.length (some p1), .sl 3 4 [] 5 0 ys.length (some p2)] [.gone, .gone, .ro (.arr xs.length 5 (evtsS xs)), .gone, .ro (.arr ys.length 5 (evtsS ys))] (.bool (eqL xs ys)) [.gone] := by
  refine litOkM (fn := Try.f88) 5 26 0 rfl rfl rfl rfl rfl (by simp only [StableL, Stable, hp]; simp [HB.born]) rfl fun w0 M E hro => ?_
  repeat' (first | with_reducible (first | apply J1 | apply J3 | apply J4 | apply J5 | apply J6 | apply J7 | apply J8 | apply J9 | apply J10 | apply J11 | apply J12 | apply J13 | apply J14 | apply J15 | apply J16 | apply J17 | apply J18 | apply J19 | apply J20 | refine J2 ?_) | ((with_reducible apply J21); (· rfl)) | ((with_reducible intro hif); first | (focus (cases hif; done)) | (simp only [JH] at hif; try (exfalso; omega)) | (try (exfalso; omega))) | ((first | ((with_reducible apply J22 c1_ok tab_ok); (· rfl)) | ((with_reducible apply J23 fol c1_ok tab_ok); (· rfl)) | with_reducible apply J24); (· exact Vm.b13); (try kernel_rfl); (try exact Vm.b12)) | fail)
  · have hne : xs ≠ ys := fun e => hif (by rw [e])
    apply At.endsRet tab_ok (fn := Try.f88) (rs := [.tmp 4]) Anc.refl hro (Nat.le_of_ble_eq_true rfl) rfl
    · exact Vm.b5
    · exact Vm.b6
    · exact Vm.b7
    · rfl
    · exact Vm.b23
    · exact Vm.b9
    · rw [eqL_false hne]; exact fun β => rfl
    · exact Vm.b23
  · refine WF.loopAt (fun j => j ≤ xs.length ∧ ∀ q, q < j → xs.getD q ⟨0, 0, 0, 0, 0⟩ = ys.getD q ⟨0, 0, 0, 0, 0⟩) (fun j => [(0, .sl 1 2 [] 5 0 xs.length (some p1)), (1, .sl 3 4 [] 5 0 ys.length (some p2)), (12, .nat .i64 xs.length), (13, .nat .i64 j)]) (fun j => [.gone, .gone, .ro (.arr xs.length 5 (evtsS xs)), .gone, .ro (.arr ys.length 5 (evtsS ys))]) (fun j => xs.length - j) 0 ⟨Nat.zero_le _, fun q hq => absurd hq (Nat.not_lt_zero q)⟩ ?_ ?_ rfl ?_ ?_ rfl ?_
    · exact Vm.b10
    · exact Vm.b7
    · exact Vm.b23
    · exact Vm.b23
    have hlen := hif
    rintro j ⟨hj, heq⟩
    repeat' (first | with_reducible (first | apply J1 | apply J3 | apply J4 | apply J5 | apply J6 | apply J7 | apply J8 | apply J9 | apply J10 | apply J11 | apply J12 | apply J13 | apply J14 | apply J15 | apply J16 | apply J17 | apply J18 | apply J19 | apply J20 | refine J2 ?_) | ((with_reducible apply J21); (· rfl)) | ((with_reducible intro hif); first | (focus (cases hif; done)) | (simp only [JH] at hif; try (exfalso; omega)) | (try (exfalso; omega))) | ((first | ((with_reducible apply J22 c1_ok tab_ok); (· rfl)) | ((with_reducible apply J23 fol c1_ok tab_ok); (· rfl)) | with_reducible apply J24); (· exact Vm.b75); (try kernel_rfl); (try exact Vm.b14)) | fail)
    · have hne : xs ≠ ys := by rintro rfl; simp at hif
      apply At.endsRet tab_ok (fn := Try.f88) (rs := [.tmp 4]) Anc.refl hro (Nat.le_of_ble_eq_true rfl) rfl
      · exact Vm.b5
      · exact Vm.b6
      · exact Vm.b7
      · rfl
      · exact Vm.b23
      · exact Vm.b9
      · rw [eqL_false hne]; exact fun β => rfl
      · exact Vm.b23
    · have hq : xs.getD j ⟨0, 0, 0, 0, 0⟩ = ys.getD j ⟨0, 0, 0, 0, 0⟩ := evt_ext (of_decide_eq_true hif.1.1) (of_decide_eq_true hif.1.2.1) (of_decide_eq_true hif.1.2.2) (of_decide_eq_true hif.2.1) (of_decide_eq_true hif.2.2)
      refine At.next (j + 1) ?_ ?_ ?_ rfl ?_ ?_ rfl
      · exact Vm.b11
      · exact Vm.b10
      · exact Vm.b7
      · exact Vm.b23
      · exact Vm.b23
    · have hjn : j = xs.length := by omega
      subst hjn
      have he : xs = ys := ext_getD ⟨0, 0, 0, 0, 0⟩ hlen heq
      apply At.endsRet tab_ok (fn := Try.f88) (rs := [.tmp 4]) Anc.refl hro (Nat.le_of_ble_eq_true rfl) rfl
      · exact Vm.b5
      · exact Vm.b6
      · exact Vm.b7
      · rfl
      · exact Vm.b23
      · exact Vm.b9
      · rw [eqL_true he]; exact fun β => rfl
      · exact Vm.b23
def sSmEvt : Spec := fun args h m => match args with
  | [v1, v2] => match srcV h 5 (.tup []) v1, srcV h 5 (.tup []) v2 with
    | some (c1, n1, f1, r1), some (c2, n2, f2, r2) => some (c1 ∧ c2 ∧ (∀ q, q < n1 → isEvt (f1 q) = true) ∧ (∀ q, q < n2 → isEvt (f2 q) = true) ∧ ((ls evtOf n1 f1).length ≤ 281474976710656), .bool (eqL (ls evtOf n1 f1) (ls evtOf n2 f2)), r1 ++ r2, [])
    | _, _ => none
  | _ => none
theorem sSmEvt_ok : CallOk Try.prog 88 sSmEvt := by
  refine ⟨named_spec (by kernel_rfl), fun args h m c v rd wr hs hm hc w0 M β h' w R hrd hwr hst => ?_⟩
  unfold sSmEvt at hs
  split at hs
  · rename_i v1 v2
    split at hs
    · rename_i c1 n1 f1 r1 c2 n2 f2 r2 a1 a2
      simp only [Option.some.injEq, Prod.mk.injEq] at hs
      obtain ⟨rfl, rfl, rfl, rfl⟩ := hs
      obtain ⟨k1, k2, g1, g2, y1⟩ := hc
      obtain ⟨A1, p1, d1, e1, t1⟩ := reads_src R a1 k1 (fun i hi => hrd i (List.mem_append_left _ hi)) (by omega)
      obtain ⟨A2, p2, d2, e2, t2⟩ := reads_src R a2 k2 (fun i hi => hrd i (List.mem_append_right _ hi)) (by omega)
      refine callRo (views := [⟨5, (ls evtOf n1 f1).length, evtsS (ls evtOf n1 f1), A1, p1⟩, ⟨5, (ls evtOf n2 f2).length, evtsS (ls evtOf n2 f2), A2, p2⟩]) (smEvt_lit (ls evtOf n1 f1) (ls evtOf n2 f2) p1 p2 y1) ?_ R hm hwr ?_ ?_ ?_
      · intro x hx
        simp only [List.mem_cons, List.not_mem_nil, or_false] at hx
        rcases hx with rfl | rfl
        · exact viewEvt t1 e1 g1
        · exact viewEvt t2 e2 g2
      · intro β1 hv
        simp only [Vd, ls_length, and_true] at hv
        obtain ⟨z1, z2⟩ := hv
        simp only [denL, aggDen, intDen, natDen, boolDen, ls_length, z1, z2, d1, d2]
      · exact Vm.b23
      · exact Vm.b23
    · cases hs
  · cases hs
end Go.Proofs.Ytjliakjbdcplcaa.Vm
end

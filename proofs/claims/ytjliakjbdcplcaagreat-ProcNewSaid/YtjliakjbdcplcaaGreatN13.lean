import Derived.Test.YtjliakjbdcplcaaGreatN6
import Derived.Test.YtjliakjbdcplcaaGreatN8
import Derived.Test.YtjliakjbdcplcaaGreatN9
import Derived.Test.YtjliakjbdcplcaaGreatN10
import Derived.Test.YtjliakjbdcplcaaGreatN11
import Derived.Test.YtjliakjbdcplcaaGreatN12
section
namespace Go.Proofs.YtjliakjbdcplcaaGreat.Vm
theorem b86 {P : Prop} (h : P := by (repeat' (first | exact trivial | exact rfl | assumption | apply Stable.ite | apply And.intro | intro _ | (simp only [Stable, StableL, dnR, i64S, prS, insS, sndsS, sndS, evtsS, evtS, prO, i64O, inO, HB.stable]; done)))) : P := h
theorem b87 {P : Prop} (h : P := by (repeat' (first | exact trivial | exact .inl rfl | exact .inr (.same _) | exact .inr .loose | exact .inr (.arr (by assumption)) | apply And.intro | (exact .inr (hl0 true))))) : P := h
theorem b88 {P : Prop} (h : P := by (repeat' (first | exact trivial | exact rfl | assumption | exact hst _ _ | exact hst1 _ _ | exact hst2 _ _ | apply Stable.ite | apply And.intro | intro _ | (simp only [Stable, StableL, i64S, prS, insS, sndsS, sndS, stS, evS, macS, mB, cB, sB, eB, prO, prR, pbB, fbB, HB.stable]; done)))) : P := h
theorem b89 {P : Prop} (h : P := by simp only [push_cast, ↓JP, Nat.reduceAdd, Nat.reduceEqDiff, Nat.reduceLT, Nat.reduceMul, Nat.reduceLeDiff, reduceCtorEq, reduceIte, ↓JK, noDefer, List.drop_zero, List.drop_succ_cons, cRun, JM, engP, prP, macP, nodupN, memN, eB, prO, pbB, fbB, JE, eEnded, eAt, eStep, eState, inR, inN, hst]; rfl) : P := h
theorem b90 {P : Prop} (h : P := by first | rfl | (simp only [push_cast, ↓JP, Nat.reduceAdd, Nat.reduceEqDiff, Nat.reduceLT, Nat.reduceMul, Nat.reduceLeDiff, reduceCtorEq, reduceIte, ↓JK, noDefer, List.drop_zero, List.drop_succ_cons, cRun, JM, engP, prP, macP, nodupN, memN, eB, prO, pbB, fbB, JE, eEnded, eAt, eStep, eState, inR, inN, hst]; done)) : P := h
theorem b91 {P : Prop} (h : P := by exact ⟨⟨hkf, stepS_good hg hP, by simp [hl], by rw [← hr1, runA_go rfl (by omega) hst]; rfl⟩, by show f.toNat - (k + 1) < f.toNat - k; omega⟩) : P := h
theorem b92 {P : Prop} (h : P := by (first | exact True.intro | ((try simp only [JS, implies_true, forall_const, ls_prS, ls_prS', ls_prS2, ls_length, Nat.zero_add]); (repeat' (first | exact True.intro | assumption | omega | apply And.intro | rfl | intro _)); done) | ((try simp only [JS, implies_true, forall_const, shaped, shapedL, kndOf]); (repeat' (first | assumption | exact True.intro | omega | apply And.intro)); done))) : P := h
theorem b93 {P : Prop} (h : P := by (simp only [push_cast, ↓JP, Nat.reduceAdd, Nat.reduceEqDiff, Nat.reduceLT, Nat.reduceMul, Nat.reduceLeDiff, reduceCtorEq, reduceIte, ↓JK, cRSm, hc]; rfl)) : P := h
theorem b94 {P : Prop} (h : P := by (first | exact True.intro | ((try simp only [JS, implies_true, forall_const, shaped, shapedL, kndOf]); (repeat' (first | exact True.intro | assumption | omega | apply And.intro | rfl | decide | intro _)); done) | ((try simp only [JS, implies_true, forall_const, shaped, shapedL, kndOf, inR, inN]); (repeat' (first | assumption | exact True.intro | omega | apply And.intro)); done))) : P := h
theorem b95 {P : Prop} (h : P := by (simp only [push_cast, ↓JP, Nat.reduceAdd, Nat.reduceEqDiff, Nat.reduceLT, Nat.reduceMul, Nat.reduceLeDiff, reduceCtorEq, reduceIte, ↓JK, evm_sn, DnI.at_, dnR, cH1, rH1, cloP, dnI, nodupN, memN, JE, isI_int, inR, inN]; rfl)) : P := h
theorem b96 {P : Prop} (h : P := by (simp only [push_cast, ↓JP, Nat.reduceAdd, Nat.reduceEqDiff, Nat.reduceLT, Nat.reduceMul, Nat.reduceLeDiff, reduceCtorEq, reduceIte, ↓JK, evm_sn, DnI.at_, dnR, cH1, rH1, cloP, dnI, nodupN, memN, JE, isI_int, inR, inN, hkl, hn']; rfl)) : P := h
theorem b97 {P : Prop} (h : P := by (first | exact True.intro | ((try simp only [JS, implies_true, forall_const, shaped, shapedL, kndOf, inR, inN]); (first | first | omega | exact ⟨hok, hn', hc⟩ | (repeat' (first | assumption | exact True.intro | omega | apply And.intro))); done))) : P := h
theorem b98 {P : Prop} (h : P := by (simp only [push_cast, ↓JP, Nat.reduceAdd, Nat.reduceEqDiff, Nat.reduceLT, Nat.reduceMul, Nat.reduceLeDiff, reduceCtorEq, reduceIte, ↓JK, cRun, sRoG, sSteps, JE, hs0, inR, inN, hE]; rfl)) : P := h
theorem b99 {P : Prop} (h : P := by (simp only [push_cast, ↓JP, Nat.reduceAdd, Nat.reduceEqDiff, Nat.reduceLT, Nat.reduceMul, Nat.reduceLeDiff, reduceCtorEq, reduceIte, ↓JK, JM, engP, prP, macP, nodupN, memN, eB, prO, pbB, fbB, JE, inR, inN]; rfl)) : P := h
theorem b100 {P : Prop} (h : P := by (simp only [push_cast, ↓JP, Nat.reduceAdd, Nat.reduceEqDiff, Nat.reduceLT, Nat.reduceMul, Nat.reduceLeDiff, reduceCtorEq, reduceIte, ↓JK, cRun, JM, engP, prP, macP, nodupN, memN, eB, prO, pbB, fbB, JE, eEnded, eAt, eStep, eState, inR, inN, hst, hkf2]; rfl)) : P := h
theorem b101 {P : Prop} (h : P := by (simp only [push_cast, ↓JP, Nat.reduceAdd, Nat.reduceEqDiff, Nat.reduceLT, Nat.reduceMul, Nat.reduceLeDiff, reduceCtorEq, reduceIte, ↓JK, cRun, JM, engP, prP, macP, nodupN, memN, eB, prO, pbB, fbB, JE, eEnded, eAt, eStep, eState, inR, inN, hst]; rfl)) : P := h
theorem b102 {P : Prop} (h : P := by (simp only [push_cast, ↓JP, Nat.reduceAdd, Nat.reduceEqDiff, Nat.reduceLT, Nat.reduceMul, Nat.reduceLeDiff, reduceCtorEq, reduceIte, ↓JK, cRun, JM, engP, prP, macP, nodupN, memN, eB, prO, pbB, fbB, JE, eEnded, eAt, eStep, eState, inR, inN, hl]; rfl)) : P := h
end Go.Proofs.YtjliakjbdcplcaaGreat.Vm
end
section
namespace Go.Proofs.YtjliakjbdcplcaaGreat.Vm
open Go.RowKit
attribute [local push_cast] runR opG gtmp gval gus opX tmpsOf tm tmO tmP restr look look2 tab tys zs ets eqB eqBL allB numOf ieq Int.cast_ofNat_Int Int.ofNat_zero beq_true beq_false frameOf ev evL ofV opV loadV noW pushF wrsL setH allBorn allGone HB.born HB.isGone HB.val SV.plain dstOk hp nav fitsT SV.size sizeL SV.isAgg TK.size TK.agg bin binE binN binI arN arI cmpN cmpI keq kn narrow callV storeV setp fillV buildV buildSliceV makeV sliceV appendV appendFV slice3V copyV List.isEmpty_nil srcV evO asN ite_t ite_f ite_bool ite_int ite_nat maxV v_beq v_ble v_blt cond_true cond_false List.getElem?_cons_zero List.getElem?_cons_succ List.getD_cons_zero List.getD_cons_succ List.getD_nil List.length_cons List.length_nil List.take_succ_cons List.take_zero List.set_cons_zero List.set_cons_succ List.cons_append List.nil_append List.append_assoc List.replicate_succ List.replicate_zero Nat.zero_add Nat.add_zero decide_true decide_false Bool.true_and Bool.and_true Bool.false_and Bool.and_false Bool.true_or Bool.or_true Bool.false_or Bool.or_false beq_self_eq_true Bool.or_self Nat.lt_irrefl Nat.not_lt_zero Nat.le_refl Option.getD_some Option.getD_none BEq.rfl Bool.not_true Bool.not_false Bool.cond_true_left Bool.cond_false_right prS sndsS i64S nav_ins nav_ins0 nav_ins1 nav_ins2 nav_ins3 nav_ins4 nav_snd nav_snd0 nav_snd1 nav_snd2 isIns_insS insOf_insS isSnd_sndS sndOf_sndS isI_int isI_nat iOf sRS14 ls_prS ls_prS' ls_prS2 inR inN
set_option linter.unusedVariables false
set_option linter.unusedSimpArgs false
set_option maxRecDepth 100000
set_option maxHeartbeats 4000000
def cRSm : FuncId → Option Spec := look2 [(95, sRS14)]
theorem cRSm_ok : ∀ f S, cRSm f = some S → CallOk Tryz.prog f S := allOk_spec ⟨sRS14_ok, trivial⟩
theorem rsame_cases (a b : Prc) : (¬ a.id = b.id) ∨ ((a.id = b.id) = True ∧ eqL a.P b.P = false) ∨ ((a.id = b.id) = True ∧ eqL a.P b.P = true ∧ ¬ a.cells.length = b.cells.length) ∨ ((a.id = b.id) = True ∧ eqL a.P b.P = true ∧ (a.cells.length = b.cells.length) = True ∧ ¬ a.draws = b.draws) ∨ ((a.id = b.id) = True ∧ eqL a.P b.P = true ∧ (a.cells.length = b.cells.length) = True ∧ (a.draws = b.draws) = True ∧ ¬ a.seq = b.seq) ∨ ((a.id = b.id) = True ∧ eqL a.P b.P = true ∧ (a.cells.length = b.cells.length) = True ∧ (a.draws = b.draws) = True ∧ (a.seq = b.seq) = True ∧ ¬ a.ports.length = b.ports.length) ∨ ((a.id = b.id) = True ∧ eqL a.P b.P = true ∧ (a.cells.length = b.cells.length) = True ∧ (a.draws = b.draws) = True ∧ (a.seq = b.seq) = True ∧ (a.ports.length = b.ports.length) = True) := by
  by_cases q0 : a.id = b.id
  rotate_left
  · exact .inl (q0)
  by_cases q1 : eqL a.P b.P = true
  rotate_left
  · exact .inr (.inl (⟨eq_true q0, Bool.eq_false_iff.2 q1⟩))
  by_cases q2 : a.cells.length = b.cells.length
  rotate_left
  · exact .inr (.inr (.inl (⟨eq_true q0, q1, q2⟩)))
  by_cases q3 : a.draws = b.draws
  rotate_left
  · exact .inr (.inr (.inr (.inl (⟨eq_true q0, q1, eq_true q2, q3⟩))))
  by_cases q4 : a.seq = b.seq
  rotate_left
  · exact .inr (.inr (.inr (.inr (.inl (⟨eq_true q0, q1, eq_true q2, eq_true q3, q4⟩)))))
  by_cases q5 : a.ports.length = b.ports.length
  rotate_left
  · exact .inr (.inr (.inr (.inr (.inr (.inl (⟨eq_true q0, q1, eq_true q2, eq_true q3, eq_true q4, q5⟩))))))
  exact .inr (.inr (.inr (.inr (.inr (.inr (⟨eq_true q0, q1, eq_true q2, eq_true q3, eq_true q4, eq_true q5⟩))))))
theorem r28same_lit (a b : Prc) (p1 p2 p3 q1 q2 q3 : Nat) (hn : a.P.length ≤ 1000000) (hcl : a.cells.length ≤ 1000000) (hpo : a.ports.length ≤ 1000000) : LitOk Tryz.prog 57 [.agg [.int .i64 a.id, .sl 1 2 [] 5 0 a.P.length (some p1), .sl 3 4 [] 1 0 a.cells.length (some p2), .int .i64 a.draws, .int .i64 a.seq, .sl 5 6 [] 1 0 a.ports.length (some p3)], .agg [.int .i64 b.id, .sl 7 8 [] 5 0 b.P.length (some q1), .sl 9 10 [] 1 0 b.cells.length (some q2), .int .i64 b.draws, .int .i64 b.seq, .sl 11 12 [] 1 0 b.ports.length (some q3)]]
    [.gone, .gone, .ro (.arr a.P.length 5 (prS a.P)), .gone, .ro (.arr a.cells.length 1 (i64S a.cells)), .gone, .ro (.arr a.ports.length 1 (i64S a.ports)), .gone, .ro (.arr b.P.length 5 (prS b.P)), .gone, .ro (.arr b.cells.length 1 (i64S b.cells)), .gone, .ro (.arr b.ports.length 1 (i64S b.ports))] (.bool (eqP a b)) [.gone] := by
  have hn2 : a.P.length ≤ 281474976710656 := by omega
  rcases rsame_cases a b with hc | hc | hc | hc | hc | hc | hc
  rotate_right 1
  · have hcc : a.cells.length = b.cells.length := of_eq_true hc.2.2.1
    have hpp : a.ports.length = b.ports.length := of_eq_true hc.2.2.2.2.2
    have hP : a.P = b.P := of_decide_eq_true hc.2.1
    refine litOkM (fn := Tryz.f57) 13 88 0 rfl rfl rfl rfl rfl (by simp only [StableL, Stable, hp, i64S, prS, insS, sndsS, sndS]; simp [HB.born]) rfl fun w0 M E hro => ?_
    repeat' (first | refine Ctl.h ?_ | ((with_reducible intro hif); first | (focus (cases hif; done)) | (simp only [JH] at hif; try (exfalso; omega)) | (try (exfalso; omega))) | ((first | ((with_reducible apply J22 cRSm_ok tab_ok); (· rfl)) | ((with_reducible apply J23 fol cRSm_ok tab_ok); (· rfl)) | with_reducible apply J24); (· exact Vm.b93); (try kernel_rfl); (try exact Vm.b92)) | fail)
    refine WF.loopAt (fun j => j ≤ a.cells.length ∧ ∀ q, q < j → a.cells.getD q 0 = b.cells.getD q 0) (fun j => [(2, .ptr 13 []), (3, .ptr 14 []), (5, .nat .i64 j)]) (fun j => [.gone, .gone, .ro (.arr a.P.length 5 (prS a.P)), .gone, .ro (.arr a.cells.length 1 (i64S a.cells)), .gone, .ro (.arr a.ports.length 1 (i64S a.ports)), .gone, .ro (.arr b.P.length 5 (prS b.P)), .gone, .ro (.arr b.cells.length 1 (i64S b.cells)), .gone, .ro (.arr b.ports.length 1 (i64S b.ports)), .own 130 (.agg [.int .i64 a.id, .sl 1 2 [] 5 0 a.P.length (some p1), .sl 3 4 [] 1 0 a.cells.length (some p2), .int .i64 a.draws, .int .i64 a.seq, .sl 5 6 [] 1 0 a.ports.length (some p3)]) true, .own 130 (.agg [.int .i64 b.id, .sl 7 8 [] 5 0 b.P.length (some q1), .sl 9 10 [] 1 0 b.cells.length (some q2), .int .i64 b.draws, .int .i64 b.seq, .sl 11 12 [] 1 0 b.ports.length (some q3)]) true]) (fun j => a.cells.length - j) 0 ⟨Nat.zero_le _, fun q hq => absurd hq (Nat.not_lt_zero q)⟩ ?_ ?_ rfl ?_ ?_ rfl ?_
    · exact Vm.b5
    · exact Vm.b6
    · exact Vm.b7
    · exact Vm.b7
    rintro j ⟨hj, heq⟩
    by_cases hjl : j < a.cells.length
    · by_cases hq : a.cells.getD j 0 = b.cells.getD j 0
      · have hqt := eq_true hq
        repeat' (first | refine Ctl.h ?_ | ((with_reducible intro hif); first | (focus (cases hif; done)) | (simp only [JH] at hif; try (exfalso; omega)) | (try (exfalso; omega))) | ((first | ((with_reducible apply J22 cRSm_ok tab_ok); (· rfl)) | ((with_reducible apply J23 fol cRSm_ok tab_ok); (· rfl)) | with_reducible apply J24); (· (simp only [push_cast, ↓JP, Nat.reduceAdd, Nat.reduceEqDiff, Nat.reduceLT, Nat.reduceMul, Nat.reduceLeDiff, reduceCtorEq, reduceIte, ↓JK, cRSm, hc, hjl, hqt]; rfl)); (try kernel_rfl); (try exact Vm.b92)) | fail)
        refine At.next (j + 1) ?_ ?_ ?_ rfl ?_ ?_ rfl
        · refine ⟨⟨hjl, fun q hq' => ?_⟩, by omega⟩; by_cases e : q = j; (rw [e]; exact hq); exact heq q (by omega)
        · exact Vm.b5
        · exact Vm.b6
        · exact Vm.b7
        · exact Vm.b7
      · have e : eqP a b = false := Bool.eq_false_iff.2 fun h => hq (by rw [eqP_iff.1 h])
        rw [e]
        repeat' (first | refine Ctl.h ?_ | ((with_reducible intro hif); first | (focus (cases hif; done)) | (simp only [JH] at hif; try (exfalso; omega)) | (try (exfalso; omega))) | ((first | ((with_reducible apply J22 cRSm_ok tab_ok); (· rfl)) | ((with_reducible apply J23 fol cRSm_ok tab_ok); (· rfl)) | with_reducible apply J24); (· (simp only [push_cast, ↓JP, Nat.reduceAdd, Nat.reduceEqDiff, Nat.reduceLT, Nat.reduceMul, Nat.reduceLeDiff, reduceCtorEq, reduceIte, ↓JK, cRSm, hc, hjl, hq]; rfl)); (try kernel_rfl); (try exact Vm.b92)) | fail)
        apply At.endsRet tab_ok (fn := Tryz.f57) (rs := [.tmp 4]) Anc.refl hro (Nat.le_of_ble_eq_true rfl) rfl
        · exact Vm.b11
        · exact Vm.b9
        · exact Vm.b6
        · rfl
        · exact Vm.b7
        · exact Vm.b10
        · exact fun β => rfl
        · exact Vm.b7
    · have hjn : j = a.cells.length := by omega
      have hC : a.cells = b.cells := ext_getD 0 hcc (by rw [← hjn]; exact heq)
      repeat' (first | refine Ctl.h ?_ | ((with_reducible intro hif); first | (focus (cases hif; done)) | (simp only [JH] at hif; try (exfalso; omega)) | (try (exfalso; omega))) | ((first | ((with_reducible apply J22 cRSm_ok tab_ok); (· rfl)) | ((with_reducible apply J23 fol cRSm_ok tab_ok); (· rfl)) | with_reducible apply J24); (· (simp only [push_cast, ↓JP, Nat.reduceAdd, Nat.reduceEqDiff, Nat.reduceLT, Nat.reduceMul, Nat.reduceLeDiff, reduceCtorEq, reduceIte, ↓JK, cRSm, hc, hjl]; rfl)); (try kernel_rfl); (try exact Vm.b92)) | fail)
      refine WF.loopAt (fun k => k ≤ a.ports.length ∧ ∀ q, q < k → a.ports.getD q 0 = b.ports.getD q 0) (fun k => [(2, .ptr 13 []), (3, .ptr 14 []), (6, .nat .i64 k)]) (fun k => [.gone, .gone, .ro (.arr a.P.length 5 (prS a.P)), .gone, .ro (.arr a.cells.length 1 (i64S a.cells)), .gone, .ro (.arr a.ports.length 1 (i64S a.ports)), .gone, .ro (.arr b.P.length 5 (prS b.P)), .gone, .ro (.arr b.cells.length 1 (i64S b.cells)), .gone, .ro (.arr b.ports.length 1 (i64S b.ports)), .own 130 (.agg [.int .i64 a.id, .sl 1 2 [] 5 0 a.P.length (some p1), .sl 3 4 [] 1 0 a.cells.length (some p2), .int .i64 a.draws, .int .i64 a.seq, .sl 5 6 [] 1 0 a.ports.length (some p3)]) true, .own 130 (.agg [.int .i64 b.id, .sl 7 8 [] 5 0 b.P.length (some q1), .sl 9 10 [] 1 0 b.cells.length (some q2), .int .i64 b.draws, .int .i64 b.seq, .sl 11 12 [] 1 0 b.ports.length (some q3)]) true]) (fun k => a.ports.length - k) 0 ⟨Nat.zero_le _, fun q hq => absurd hq (Nat.not_lt_zero q)⟩ ?_ ?_ rfl ?_ ?_ rfl ?_
      · exact Vm.b5
      · exact Vm.b6
      · exact Vm.b7
      · exact Vm.b7
      rintro k ⟨hk, heq2⟩
      by_cases hkl : k < a.ports.length
      · by_cases hq : a.ports.getD k 0 = b.ports.getD k 0
        · have hqt := eq_true hq
          repeat' (first | refine Ctl.h ?_ | ((with_reducible intro hif); first | (focus (cases hif; done)) | (simp only [JH] at hif; try (exfalso; omega)) | (try (exfalso; omega))) | ((first | ((with_reducible apply J22 cRSm_ok tab_ok); (· rfl)) | ((with_reducible apply J23 fol cRSm_ok tab_ok); (· rfl)) | with_reducible apply J24); (· (simp only [push_cast, ↓JP, Nat.reduceAdd, Nat.reduceEqDiff, Nat.reduceLT, Nat.reduceMul, Nat.reduceLeDiff, reduceCtorEq, reduceIte, ↓JK, cRSm, hc, hkl, hqt]; rfl)); (try kernel_rfl); (try exact Vm.b92)) | fail)
          refine At.next (k + 1) ?_ ?_ ?_ rfl ?_ ?_ rfl
          · refine ⟨⟨hkl, fun q hq' => ?_⟩, by omega⟩; by_cases e : q = k; (rw [e]; exact hq); exact heq2 q (by omega)
          · exact Vm.b5
          · exact Vm.b6
          · exact Vm.b7
          · exact Vm.b7
        · have e : eqP a b = false := Bool.eq_false_iff.2 fun h => hq (by rw [eqP_iff.1 h])
          rw [e]
          repeat' (first | refine Ctl.h ?_ | ((with_reducible intro hif); first | (focus (cases hif; done)) | (simp only [JH] at hif; try (exfalso; omega)) | (try (exfalso; omega))) | ((first | ((with_reducible apply J22 cRSm_ok tab_ok); (· rfl)) | ((with_reducible apply J23 fol cRSm_ok tab_ok); (· rfl)) | with_reducible apply J24); (· (simp only [push_cast, ↓JP, Nat.reduceAdd, Nat.reduceEqDiff, Nat.reduceLT, Nat.reduceMul, Nat.reduceLeDiff, reduceCtorEq, reduceIte, ↓JK, cRSm, hc, hkl, hq]; rfl)); (try kernel_rfl); (try exact Vm.b92)) | fail)
          apply At.endsRet tab_ok (fn := Tryz.f57) (rs := [.tmp 4]) Anc.refl hro (Nat.le_of_ble_eq_true rfl) rfl
          · exact Vm.b11
          · exact Vm.b9
          · exact Vm.b6
          · rfl
          · exact Vm.b7
          · exact Vm.b10
          · exact fun β => rfl
          · exact Vm.b7
      · have hkn : k = a.ports.length := by omega
        have hPo : a.ports = b.ports := ext_getD 0 hpp (by rw [← hkn]; exact heq2)
        have e : eqP a b = true := by
          unfold eqP
          rw [decide_eq_true (of_eq_true hc.1), hc.2.1, eqL_true hC, decide_eq_true (of_eq_true hc.2.2.2.1), decide_eq_true (of_eq_true hc.2.2.2.2.1), eqL_true hPo]; rfl
        rw [e]
        repeat' (first | refine Ctl.h ?_ | ((with_reducible intro hif); first | (focus (cases hif; done)) | (simp only [JH] at hif; try (exfalso; omega)) | (try (exfalso; omega))) | ((first | ((with_reducible apply J22 cRSm_ok tab_ok); (· rfl)) | ((with_reducible apply J23 fol cRSm_ok tab_ok); (· rfl)) | with_reducible apply J24); (· (simp only [push_cast, ↓JP, Nat.reduceAdd, Nat.reduceEqDiff, Nat.reduceLT, Nat.reduceMul, Nat.reduceLeDiff, reduceCtorEq, reduceIte, ↓JK, cRSm, hc, hkl]; rfl)); (try kernel_rfl); (try exact Vm.b92)) | fail)
        apply At.endsRet tab_ok (fn := Tryz.f57) (rs := [.tmp 4]) Anc.refl hro (Nat.le_of_ble_eq_true rfl) rfl
        · exact Vm.b11
        · exact Vm.b9
        · exact Vm.b6
        · rfl
        · exact Vm.b7
        · exact Vm.b10
        · exact fun β => rfl
        · exact Vm.b7
  all_goals
    have e : eqP a b = false := Bool.eq_false_iff.2 fun h => by
      have hab := eqP_iff.1 h
      subst hab
      revert hc
      simp [eqL]
    rw [e]
    refine litOkM (fn := Tryz.f57) 13 88 0 rfl rfl rfl rfl rfl (by simp only [StableL, Stable, hp, i64S, prS, insS, sndsS, sndS]; simp [HB.born]) rfl fun w0 M E hro => ?_
    repeat' (first | refine Ctl.h ?_ | ((with_reducible intro hif); first | (focus (cases hif; done)) | (simp only [JH] at hif; try (exfalso; omega)) | (try (exfalso; omega))) | ((first | ((with_reducible apply J22 cRSm_ok tab_ok); (· rfl)) | ((with_reducible apply J23 fol cRSm_ok tab_ok); (· rfl)) | with_reducible apply J24); (· exact Vm.b93); (try kernel_rfl); (try exact Vm.b92)) | fail)
    apply At.endsRet tab_ok (fn := Tryz.f57) (rs := [.tmp 4]) Anc.refl hro (Nat.le_of_ble_eq_true rfl) rfl
    · exact Vm.b11
    · exact Vm.b9
    · exact Vm.b6
    · rfl
    · exact Vm.b7
    · exact Vm.b10
    · exact fun β => rfl
    · exact Vm.b7
def sR28S : Spec := fun args h m => match args with
  | [.agg [v1, v2, v3, v4, v5, v6], .agg [v7, v8, v9, v10, v11, v12]] => match srcV h 5 (.tup []) v2, srcV h 1 (.tup []) v3, srcV h 1 (.tup []) v6, srcV h 5 (.tup []) v8, srcV h 1 (.tup []) v9, srcV h 1 (.tup []) v12 with
    | some (c2, n2, f2, r2), some (c3, n3, f3, r3), some (c6, n6, f6, r6), some (c8, n8, f8, r8), some (c9, n9, f9, r9), some (c12, n12, f12, r12) => bif isI .i64 v1 && isI .i64 v4 && isI .i64 v5 && isI .i64 v7 && isI .i64 v10 && isI .i64 v11 then some (c2 ∧ c3 ∧ c6 ∧ c8 ∧ c9 ∧ c12 ∧ (∀ q, q < n2 → isIns (f2 q) = true) ∧ (∀ q, q < n3 → isI .i64 (f3 q) = true) ∧ (∀ q, q < n6 → isI .i64 (f6 q) = true) ∧ (∀ q, q < n8 → isIns (f8 q) = true) ∧ (∀ q, q < n9 → isI .i64 (f9 q) = true) ∧ (∀ q, q < n12 → isI .i64 (f12 q) = true) ∧ (n2 ≤ 1000000) ∧ (n3 ≤ 1000000) ∧ (n6 ≤ 1000000), .bool (eqP ⟨(iOf v1), (ls insOf n2 f2), (ls iOf n3 f3), (iOf v4), (iOf v5), (ls iOf n6 f6)⟩ ⟨(iOf v7), (ls insOf n8 f8), (ls iOf n9 f9), (iOf v10), (iOf v11), (ls iOf n12 f12)⟩), r2 ++ r3 ++ r6 ++ r8 ++ r9 ++ r12, []) else none
    | _, _, _, _, _, _ => none
  | _ => none
theorem sR28S_ok : CallOk Tryz.prog 57 sR28S := by
  refine ⟨named_spec (by kernel_rfl), fun args h m c v rd wr hs hm hc w0 M β h' w R hrd hwr hst => ?_⟩
  unfold sR28S at hs
  split at hs
  · rename_i v1 v2 v3 v4 v5 v6 v7 v8 v9 v10 v11 v12
    split at hs
    · rename_i c2 n2 f2 r2 c3 n3 f3 r3 c6 n6 f6 r6 c8 n8 f8 r8 c9 n9 f9 r9 c12 n12 f12 r12 a2 a3 a6 a8 a9 a12
      obtain ⟨hb, hs⟩ := bif_some hs
      simp only [Option.some.injEq, Prod.mk.injEq] at hs
      obtain ⟨rfl, rfl, rfl, rfl⟩ := hs
      simp only [Bool.and_eq_true] at hb
      obtain ⟨⟨⟨⟨⟨b1, b4⟩, b5⟩, b7⟩, b10⟩, b11⟩ := hb
      obtain ⟨k2, k3, k6, k8, k9, k12, g2, g3, g6, g8, g9, g12, y1, y2, y3⟩ := hc
      obtain ⟨A2, p2, d2, e2, t2⟩ := reads_src R a2 k2 (fun i hi => hrd i (List.mem_append_left _ (List.mem_append_left _ (List.mem_append_left _ (List.mem_append_left _ (List.mem_append_left _ hi)))))) (by omega)
      obtain ⟨A3, p3, d3, e3, t3⟩ := reads_src R a3 k3 (fun i hi => hrd i (List.mem_append_left _ (List.mem_append_left _ (List.mem_append_left _ (List.mem_append_left _ (List.mem_append_right _ hi)))))) (by omega)
      obtain ⟨A6, p6, d6, e6, t6⟩ := reads_src R a6 k6 (fun i hi => hrd i (List.mem_append_left _ (List.mem_append_left _ (List.mem_append_left _ (List.mem_append_right _ hi))))) (by omega)
      obtain ⟨A8, p8, d8, e8, t8⟩ := reads_src R a8 k8 (fun i hi => hrd i (List.mem_append_left _ (List.mem_append_left _ (List.mem_append_right _ hi)))) (by omega)
      obtain ⟨A9, p9, d9, e9, t9⟩ := reads_src R a9 k9 (fun i hi => hrd i (List.mem_append_left _ (List.mem_append_right _ hi))) (by omega)
      obtain ⟨A12, p12, d12, e12, t12⟩ := reads_src R a12 k12 (fun i hi => hrd i (List.mem_append_right _ hi)) (by omega)
      refine callRo (views := [⟨5, (ls insOf n2 f2).length, prS (ls insOf n2 f2), A2, p2⟩, ⟨1, (ls iOf n3 f3).length, i64S (ls iOf n3 f3), A3, p3⟩, ⟨1, (ls iOf n6 f6).length, i64S (ls iOf n6 f6), A6, p6⟩, ⟨5, (ls insOf n8 f8).length, prS (ls insOf n8 f8), A8, p8⟩, ⟨1, (ls iOf n9 f9).length, i64S (ls iOf n9 f9), A9, p9⟩, ⟨1, (ls iOf n12 f12).length, i64S (ls iOf n12 f12), A12, p12⟩]) (r28same_lit ⟨(iOf v1), (ls insOf n2 f2), (ls iOf n3 f3), (iOf v4), (iOf v5), (ls iOf n6 f6)⟩ ⟨(iOf v7), (ls insOf n8 f8), (ls iOf n9 f9), (iOf v10), (iOf v11), (ls iOf n12 f12)⟩ p2 p3 p6 p8 p9 p12 (by rw [ls_length]; exact y1) (by rw [ls_length]; exact y2) (by rw [ls_length]; exact y3)) ?_ R hm hwr ?_ ?_ ?_
      · intro x hx
        simp only [List.mem_cons, List.not_mem_nil, or_false] at hx
        rcases hx with rfl | rfl | rfl | rfl | rfl | rfl
        · exact viewIns t2 e2 g2
        · exact viewI64 t3 e3 g3
        · exact viewI64 t6 e6 g6
        · exact viewIns t8 e8 g8
        · exact viewI64 t9 e9 g9
        · exact viewI64 t12 e12 g12
      · intro β1 hv
        simp only [Vd, ls_length, and_true] at hv
        obtain ⟨z2, z3, z6, z8, z9, z12⟩ := hv
        simp only [denL, aggDen, intDen, natDen, boolDen, ls_length, z2, z3, z6, z8, z9, z12, d2, d3, d6, d8, d9, d12, isI_den b1, isI_den b4, isI_den b5, isI_den b7, isI_den b10, isI_den b11]
      · exact Vm.b7
      · exact Vm.b7
    · cases hs
  · cases hs
end Go.Proofs.YtjliakjbdcplcaaGreat.Vm
end

section
open Go.Proofs.YtjliakjbdcplcaaGreat.Vm Go.RowKit
attribute [local push_cast] runR opG gtmp gval gus opX tmpsOf tm tmO tmP restr look look2 tab tys zs ets eqB eqBL allB numOf ieq Int.cast_ofNat_Int Int.ofNat_zero beq_true beq_false frameOf ev evL ofV opV loadV noW pushF wrsL setH allBorn allGone HB.born HB.isGone HB.val SV.plain dstOk hp nav fitsT SV.size sizeL SV.isAgg TK.size TK.agg bin binE binN binI arN arI cmpN cmpI keq kn narrow callV storeV setp fillV buildV buildSliceV makeV sliceV appendV appendFV slice3V copyV List.isEmpty_nil srcV evO asN ite_t ite_f ite_bool ite_int ite_nat maxV v_beq v_ble v_blt cond_true cond_false List.getElem?_cons_zero List.getElem?_cons_succ List.getD_cons_zero List.getD_cons_succ List.getD_nil List.length_cons List.length_nil List.take_succ_cons List.take_zero List.set_cons_zero List.set_cons_succ List.cons_append List.nil_append List.append_assoc List.replicate_succ List.replicate_zero Nat.zero_add Nat.add_zero decide_true decide_false Bool.true_and Bool.and_true Bool.false_and Bool.and_false Bool.true_or Bool.or_true Bool.false_or Bool.or_false beq_self_eq_true Bool.or_self Nat.lt_irrefl Nat.not_lt_zero Nat.le_refl Option.getD_some Option.getD_none BEq.rfl Bool.not_true Bool.not_false Bool.cond_true_left Bool.cond_false_right prS sndsS i64S nav_ins nav_ins0 nav_ins1 nav_ins2 nav_ins3 nav_ins4 nav_snd nav_snd0 nav_snd1 nav_snd2 isIns_insS insOf_insS isSnd_sndS sndOf_sndS isI_int isI_nat iOf
section
namespace Go.Proofs.YtjliakjbdcplcaaGreat.Vm
open Go.RowKit
set_option linter.unusedVariables false
set_option linter.unusedSimpArgs false
set_option maxRecDepth 100000
set_option maxHeartbeats 4000000
def dnR (id dr sq : Int) (n1 n2 n3 n4 u i c q j : Nat) : SV := .agg [.agg [.int .i64 id, .sl i i [] 5 0 n1 none, .sl c c [] 1 0 n2 none, .int .i64 dr, .int .i64 sq, .sl q q [] 1 0 n3 none], .sl j j [] 5 0 n4 none, .nat .i64 u]
structure DnI where
  id : Int
  dr : Int
  sq : Int
  n1 : Nat
  n2 : Nat
  n3 : Nat
  n4 : Nat
  u : Nat
  i : Nat
  c : Nat
  q : Nat
  j : Nat
def DnI.v (y : DnI) : SV := dnR y.id y.dr y.sq y.n1 y.n2 y.n3 y.n4 y.u y.i y.c y.q y.j
def DnI.at_ (y : DnI) (i c q j : Nat) : SV := dnR y.id y.dr y.sq y.n1 y.n2 y.n3 y.n4 y.u i c q j
def dnI : SV → Option DnI
  | .agg [.agg [.int .i64 id, .sl z1 i [] 5 0 n1 none, .sl z2 c [] 1 0 n2 none, .int .i64 dr, .int .i64 sq, .sl z3 q [] 1 0 n3 none], .sl z4 j [] 5 0 n4 none, .nat .i64 u] =>
    bif (Nat.beq z1 i && Nat.beq z2 c) && (Nat.beq z3 q && Nat.beq z4 j) then some ⟨id, dr, sq, n1, n2, n3, n4, u, i, c, q, j⟩ else none
  | _ => none
theorem dnI_val {v : SV} {y : DnI} (h : dnI v = some y) : v = y.v := by
  unfold dnI at h
  split at h
  · obtain ⟨hb, hs⟩ := bif_some h
    simp only [Option.some.injEq] at hs
    subst hs
    simp only [Bool.and_eq_true] at hb
    obtain ⟨⟨b1, b2⟩, b3, b4⟩ := hb
    have b1 := Nat.eq_of_beq_eq_true b1
    have b2 := Nat.eq_of_beq_eq_true b2
    have b3 := Nat.eq_of_beq_eq_true b3
    have b4 := Nat.eq_of_beq_eq_true b4
    subst b1 b2 b3 b4
    rfl
  · cases h
theorem dnR_ren {ρ : Nat → Nat} {y : DnI} {i c q j : Nat} (h1 : ρ i = y.i) (h2 : ρ c = y.c) (h3 : ρ q = y.q) (h4 : ρ j = y.j) : (y.at_ i c q j).ren ρ = y.v := by
  simp only [DnI.at_, DnI.v, dnR, SV.ren, renL, h1, h2, h3, h4]
theorem dnR_st {h : HM} {y : DnI} {i c q j : Nat} (h1 : (h i).born = true) (h2 : (h c).born = true) (h3 : (h q).born = true) (h4 : (h j).born = true) : Stable h (y.at_ i c q j) := by
  simp [DnI.at_, dnR, Stable, StableL, h1, h2, h3, h4]
def cloP (h : HM) (b : Nat) : Option (Nat × DnI × List Int × Prop) := match (h b).val with
  | some (.ptr d []) => match (h d).val with
    | some v => match dnI v with
      | some y => match (h y.q).val with
        | some (.arr n3 1 f) => bif Nat.beq n3 y.n3 && ((h y.i).born && ((h y.c).born && (h y.j).born)) then some (d, y, ls iOf n3 f, ∀ x, x < n3 → isI .i64 (f x) = true) else none
        | _ => none
      | none => none
    | none => none
  | _ => none
theorem cloP_val {h : HM} {b d : Nat} {y : DnI} {ps : List Int} {ok : Prop} (hp : cloP h b = some (d, y, ps, ok)) :
    (h b).val = some (.ptr d []) ∧ (h d).val = some y.v ∧ (h y.i).born = true ∧ (h y.c).born = true ∧ (h y.j).born = true ∧ ps.length = y.n3 ∧ ∃ f, (h y.q).val = some (.arr y.n3 1 f) ∧ ps = ls iOf y.n3 f ∧ (ok → ∀ x, x < y.n3 → isI .i64 (f x) = true) := by
  unfold cloP at hp
  split at hp
  · rename_i d' hb
    split at hp
    · rename_i v hd
      split at hp
      · rename_i y' hy
        split at hp
        · rename_i n3 f hq
          obtain ⟨hbb, hs⟩ := bif_some hp
          simp only [Option.some.injEq, Prod.mk.injEq] at hs
          obtain ⟨rfl, rfl, rfl, rfl⟩ := hs
          simp only [Bool.and_eq_true] at hbb
          obtain ⟨b1, b2, b3, b4⟩ := hbb
          have b1 := Nat.eq_of_beq_eq_true b1
          subst b1
          have := dnI_val hy
          subst this
          exact ⟨hb, hd, b2, b3, b4, ls_length .., f, hq, rfl, fun h => h⟩
        · cases hp
      · cases hp
    · cases hp
  · cases hp
section
variable {ρ : Nat → Nat} {h h' : HM} {b d : Nat} {y : DnI} {ps : List Int} {ok : Prop}
theorem bun_pt {x : Nat} (hp : (h b).val = some (.ptr d [])) (e : h' b = h b) (hx : ρ x = d) : Bun1 ρ (h' b) (.ro (.ptr x [])) :=
  Fit.ro (u := .ptr d []) (by rw [e]; exact hp) (fun β => by simp only [SV.ren, hx]) (fun n k f e => by cases e)
theorem bun_dn {i c q j : Nat} (hp : (h d).val = some y.v) (e : h' d = h d) (h1 : ρ i = y.i) (h2 : ρ c = y.c) (h3 : ρ q = y.q) (h4 : ρ j = y.j) : Bun1 ρ (h' d) (.ro (y.at_ i c q j)) :=
  Fit.ro (u := y.v) (by rw [e]; exact hp) (fun β => by rw [dnR_ren h1 h2 h3 h4]) (fun n k f e => by cases e)
theorem bun_po {q n : Nat} {f : Nat → SV} (hp : (h q).val = some (.arr n 1 f)) (hf : ∀ x, x < n → isI .i64 (f x) = true) (hps : ps = ls iOf n f) (e : h' q = h q) : Bun1 ρ (h' q) (.ro (.arr ps.length 1 (i64S ps))) := by
  subst hps
  rw [ls_length]
  refine Fit.ro (u := .arr n 1 f) (by rw [e]; exact hp) (fun β => ?_) (fun n k f e => by injection e with e1 e2 e3; subst e1 e2; exact ⟨_, rfl⟩)
  refine arrCl fun x hx => ?_
  rw [isI_cl (hf x hx)]
  unfold i64S
  rw [ls_getD hx]; rfl
end
theorem h1_lit (s : Snd) (ps : List Int) (y : DnI) (hy : y.n3 = ps.length) (h0 : 0 ≤ s.port) (h1 : s.port.toNat < ps.length) (hl : ps.length ≤ 1000000) : LitOk Tryz.prog 126 [sndS s, .ptr 1 []] [.gone, .ro (.ptr 2 []), .ro (y.at_ 3 4 5 6), .gone, .gone, .ro (.arr ps.length 1 (i64S ps)), .gone] (.bool (decide (ps.getD s.port.toNat 0 = 0))) [.gone, .gone, .gone, .gone, .gone, .gone, .gone] := by
  obtain ⟨id, dr, sq, n1, n2, n3, n4, u, i, c, q, j⟩ := y
  dsimp only at hy
  subst hy
  simp only [DnI.at_]
  refine litOkM (fn := Tryz.f126) 7 14 0 rfl rfl rfl rfl rfl (by simp only [StableL, Stable, hp, dnR, i64S, prS, insS, sndsS, sndS, evtsS, evtS, prO, i64O, inO, HB.stable]; simp [HB.born, dnR, sndS]) rfl fun w0 M E hro => ?_
  repeat' (first | refine Ctl.h ?_ | ((with_reducible intro hif); first | (focus (cases hif; done)) | (simp only [JH] at hif; try (exfalso; omega)) | (try (exfalso; omega))) | ((first | ((with_reducible apply J22 c1_ok tab_ok); (· rfl)) | ((with_reducible apply J23 fol c1_ok tab_ok); (· rfl)) | with_reducible apply J24); (· (simp only [push_cast, ↓JP, Nat.reduceAdd, Nat.reduceEqDiff, Nat.reduceLT, Nat.reduceMul, Nat.reduceLeDiff, reduceCtorEq, reduceIte, ↓JK, dnR, inR, inN, h0, h1, i64S]; rfl)); (try kernel_rfl); (try exact Vm.b14)) | fail)
  apply At.endsPick [0, 1, 2, 3, 4, 5, 6] tab_ok (fn := Tryz.f126) (rs := [.tmp 3]) Anc.refl hro (Nat.le_of_ble_eq_true rfl) rfl
  · exact Vm.b11
  · exact Vm.b26
  · rfl
  · rfl
  · rfl
  · exact Vm.b40
  · rfl
  · exact Vm.b86
  · exact Vm.b10
  · exact fun β => rfl
  · exact Vm.b86
def rH1 : Spec := fun args h m => match args with
  | [v, .ptr b []] => match cloP h b with
    | some (d, y, ps, ok) => bif isSnd v && nodupN [0, b, d, y.i, y.c, y.q, y.j] then some (ok ∧ 0 ≤ (sndOf v).port ∧ (sndOf v).port.toNat < ps.length ∧ ps.length ≤ 1000000, .bool (decide (ps.getD (sndOf v).port.toNat 0 = 0)), [b, d, y.i, y.c, y.q, y.j], []) else none
    | none => none
  | _ => none
theorem den_sndOf {v : SV} {β : Env} (h : isSnd v = true) : v.den β = (sndS (sndOf v)).den β := by
  have ha : v.isAgg = true := by cases v <;> first | rfl | (cases h; done)
  rw [den_agg ha, den_agg rfl, isSnd_cl h, isSnd_cl (isSnd_sndS _), sndOf_sndS]
theorem rH1_ok : CallOk Tryz.prog 126 rH1 := by
  refine ⟨named_spec (by kernel_rfl), fun args h m c v rd wr hs hm hc w0 M β h' w R hrd hwr hst => ?_⟩
  unfold rH1 at hs
  split at hs
  · rename_i v0 b
    split at hs
    · rename_i d y ps ok hcp
      obtain ⟨hb, hs⟩ := bif_some hs
      simp only [Option.some.injEq, Prod.mk.injEq] at hs
      obtain ⟨rfl, rfl, rfl, rfl⟩ := hs
      rw [Bool.and_eq_true] at hb
      obtain ⟨b1, hnd⟩ := hb
      obtain ⟨g1, g2, g3, g4, g5, g6, f, g7, g8, g9⟩ := cloP_val hcp
      obtain ⟨k1, k2, k3, k4⟩ := hc
      have ea : denL β [v0, .ptr b []] = denL β [sndS (sndOf v0), .ptr b []] := by simp only [denL]; rw [den_sndOf b1]
      rw [ea]
      exact bun_ok (h := h) (m := m) [0, b, d, y.i, y.c, y.q, y.j] (h1_lit (sndOf v0) ps y g6.symm k2 k3 k4) R rfl (by simp) rfl rfl hnd
        ⟨Fit.gone (by rw [R.nil0]; rfl), bun_pt g1 (hrd b (by simp)) rfl, bun_dn g2 (hrd d (by simp)) rfl rfl rfl rfl, Fit.gone (by rw [hrd y.i (by simp)]; exact g3), Fit.gone (by rw [hrd y.c (by simp)]; exact g4), bun_po g7 (g9 k1) g8 (hrd y.q (by simp)), Fit.gone (by rw [hrd y.j (by simp)]; exact g5), trivial⟩ hm
        (fun p hp => by cases hp) (by simp) rfl
        ⟨trivial, rfl, dnR_st rfl rfl rfl rfl, trivial, trivial, (fun q => i64S_stable q), trivial, trivial⟩ ⟨sndS_stable _, rfl, trivial⟩
        ⟨trivial, rfl, dnR_st rfl rfl rfl rfl, trivial, trivial, (fun q => i64S_stable q), trivial, trivial⟩ trivial rfl rfl rfl
    · cases hs
  · cases hs
theorem evm_sn (i : Snd) (a : Bool → SV → Option (Prop × SV)) (b : SV → Option (Prop × SV)) (c : Unit → Option (Prop × SV)) : ev.match_1 (fun _ => Option (Prop × SV)) (some (sndS i)) a b c = b (sndS i) := rfl
def gonB (ps : List Int) (s : Snd) : Bool := decide (ps.getD s.port.toNat 0 = 0)
def cH1 : FuncId → Option Spec := look2 [(126, rH1)]
theorem cH1_ok : ∀ f S, cH1 f = some S → CallOk Tryz.prog f S := allOk_spec ⟨rH1_ok, trivial⟩
theorem idxS_lit (l : List Snd) (ps : List Int) (y : DnI) (hy : y.n3 = ps.length) (hS : ∀ s ∈ l, 0 ≤ s.port ∧ s.port.toNat < ps.length) (hl : ps.length ≤ 1000000) (hll : l.length ≤ 1000000) : LitOk Tryz.prog 158 [.sl 1 1 [] 3 0 l.length none, .fn 126 [.ptr 2 []]] [.gone, .ro (.arr l.length 3 (sndsS l)), .ro (.ptr 3 []), .ro (y.at_ 4 5 6 7), .gone, .gone, .ro (.arr ps.length 1 (i64S ps)), .gone] (.int .i64 (findI (gonB ps) l)) [.gone, .gone, .gone, .gone, .gone, .gone, .gone, .gone] := by
  obtain ⟨id, dr, sq, n1, n2, n3, n4, u, i, c, q, j⟩ := y
  dsimp only at hy
  subst hy
  simp only [DnI.at_]
  refine litOkM (fn := Tryz.f158) 8 19 0 rfl rfl rfl rfl rfl (by simp only [StableL, Stable, hp, dnR, i64S, prS, insS, sndsS, sndS, evtsS, evtS, prO, i64O, inO, HB.stable]; simp [HB.born, dnR]) rfl fun w0 M E hro => ?_
  repeat' (first | refine Ctl.h ?_ | ((with_reducible intro hif); first | (focus (cases hif; done)) | (simp only [JH] at hif; try (exfalso; omega)) | (try (exfalso; omega))) | ((first | ((with_reducible apply J22 cH1_ok tab_ok); (· rfl)) | ((with_reducible apply J23 fol cH1_ok tab_ok); (· rfl)) | with_reducible apply J24); (· exact Vm.b95); (try kernel_rfl); (try exact Vm.b94)) | fail)
  refine WF.loopAt (fun k => k ≤ l.length ∧ ∀ q, q < k → gonB ps (l.getD q ⟨0, 0, 0⟩) = false) (fun k => [(0, .sl 1 1 [] 3 0 l.length none), (1, .fn 126 [.ptr 2 []]), (7, .nat .i64 l.length), (8, .nat .i64 k)]) (fun k => [.gone, .ro (.arr l.length 3 (sndsS l)), .ro (.ptr 3 []), .ro (dnR id dr sq n1 n2 ps.length n4 u 4 5 6 7), .gone, .gone, .ro (.arr ps.length 1 (i64S ps)), .gone]) (fun k => l.length - k) 0 ⟨Nat.zero_le _, fun q hq => absurd hq (Nat.not_lt_zero q)⟩ ?_ ?_ rfl ?_ ?_ rfl ?_
  · exact Vm.b5
  · exact Vm.b6
  · exact Vm.b86
  · exact Vm.b86
  rintro k ⟨hk, hq⟩
  by_cases hkl : k < l.length
  · have hm : l.getD k ⟨0, 0, 0⟩ ∈ l := by rw [List.getD_eq_getElem?_getD, List.getElem?_eq_getElem hkl]; exact List.getElem_mem hkl
    obtain ⟨s0, s1⟩ := hS _ hm
    cases hn : gonB ps (l.getD k ⟨0, 0, 0⟩)
    · have hn' := of_decide_eq_false hn
      repeat' (first | refine Ctl.h ?_ | ((with_reducible intro hif); first | (focus (cases hif; done)) | (simp only [JH] at hif; try (exfalso; omega)) | (try (exfalso; omega))) | ((first | ((with_reducible apply J22 cH1_ok tab_ok); (· rfl)) | ((with_reducible apply J23 fol cH1_ok tab_ok); (· rfl)) | with_reducible apply J24); (· exact Vm.b96); (try kernel_rfl); (try exact Vm.b94)) | fail)
      refine At.next (k + 1) ?_ ?_ ?_ rfl ?_ ?_ rfl
      · refine ⟨⟨hkl, fun q hq' => ?_⟩, by omega⟩; by_cases e : q = k; (rw [e]; exact hn); exact hq q (by omega)
      · exact Vm.b5
      · exact Vm.b6
      · exact Vm.b86
      · exact Vm.b86
    · have hf := find_at hkl hq hn
      have hn' := of_decide_eq_true hn
      repeat' (first | refine Ctl.h ?_ | ((with_reducible intro hif); first | (focus (cases hif; done)) | (simp only [JH] at hif; try (exfalso; omega)) | (try (exfalso; omega))) | ((first | ((with_reducible apply J22 cH1_ok tab_ok); (· rfl)) | ((with_reducible apply J23 fol cH1_ok tab_ok); (· rfl)) | with_reducible apply J24); (· exact Vm.b96); (try kernel_rfl); (try exact Vm.b94)) | fail)
      apply At.endsPick [0, 1, 2, 3, 4, 5, 6, 7] tab_ok (fn := Tryz.f158) (rs := [.tmp 4]) Anc.refl hro (Nat.le_of_ble_eq_true rfl) rfl
      · exact Vm.b11
      · exact Vm.b26
      · rfl
      · rfl
      · rfl
      · exact Vm.b40
      · rfl
      · exact Vm.b86
      · exact Vm.b10
      · rw [hf]; exact fun β => rfl
      · exact Vm.b86
  · obtain rfl : k = l.length := by omega
    have hf := find_no hq
    repeat' (first | refine Ctl.h ?_ | ((with_reducible intro hif); first | (focus (cases hif; done)) | (simp only [JH] at hif; try (exfalso; omega)) | (try (exfalso; omega))) | ((first | ((with_reducible apply J22 cH1_ok tab_ok); (· rfl)) | ((with_reducible apply J23 fol cH1_ok tab_ok); (· rfl)) | with_reducible apply J24); (· exact Vm.b95); (try kernel_rfl); (try exact Vm.b94)) | fail)
    apply At.endsPick [0, 1, 2, 3, 4, 5, 6, 7] tab_ok (fn := Tryz.f158) (rs := [.tmp 4]) Anc.refl hro (Nat.le_of_ble_eq_true rfl) rfl
    · exact Vm.b11
    · exact Vm.b26
    · rfl
    · rfl
    · rfl
    · exact Vm.b40
    · rfl
    · exact Vm.b86
    · exact Vm.b10
    · rw [hf]; exact fun β => rfl
    · exact Vm.b86
def rIx : Spec := fun args h m => match args with
  | [.sl z s [] 3 0 n none, .fn f0 [.ptr b []]] => match (h s).val with
    | some (.arr n' 3 f) => match cloP h b with
      | some (d, y, ps, ok) => bif (Nat.beq z s && Nat.beq n n') && (Nat.beq f0 126 && nodupN [0, s, b, d, y.i, y.c, y.q, y.j]) then
          some (ok ∧ (∀ q, q < n → isSnd (f q) = true) ∧ (∀ s ∈ ls sndOf n f, 0 ≤ s.port ∧ s.port.toNat < ps.length) ∧ ps.length ≤ 1000000 ∧ n ≤ 1000000, .int .i64 (findI (gonB ps) (ls sndOf n f)), [s, b, d, y.i, y.c, y.q, y.j], []) else none
      | none => none
    | _ => none
  | _ => none
theorem rIx_ok : CallOk Tryz.prog 158 rIx := by
  refine ⟨named_spec (by kernel_rfl), fun args h m c v rd wr hs hm hc w0 M β h' w R hrd hwr hst => ?_⟩
  unfold rIx at hs
  split at hs
  · rename_i z s n f0 b
    split at hs
    · rename_i n' f hsv
      split at hs
      · rename_i d y ps ok hcp
        obtain ⟨hb, hs⟩ := bif_some hs
        simp only [Option.some.injEq, Prod.mk.injEq] at hs
        obtain ⟨rfl, rfl, rfl, rfl⟩ := hs
        simp only [Bool.and_eq_true] at hb
        obtain ⟨⟨b1, b2⟩, b3, hnd⟩ := hb
        have b1 := Nat.eq_of_beq_eq_true b1
        have b2 := Nat.eq_of_beq_eq_true b2
        have b3 := Nat.eq_of_beq_eq_true b3
        subst b1 b2 b3
        obtain ⟨g1, g2, g3, g4, g5, g6, f2, g7, g8, g9⟩ := cloP_val hcp
        obtain ⟨k1, k2, k3, k4, k5⟩ := hc
        have el : (ls sndOf n f).length = n := ls_length ..
        have ea : denL β [SV.sl z z [] 3 0 n none, .fn 126 [.ptr b []]] = denL β [SV.sl z z [] 3 0 (ls sndOf n f).length none, .fn 126 [.ptr b []]] := by rw [el]
        rw [ea]
        exact bun_ok (h := h) (m := m) [0, z, b, d, y.i, y.c, y.q, y.j] (idxS_lit (ls sndOf n f) ps y g6.symm k3 k4 (by rw [el]; exact k5)) R rfl (by simp) rfl rfl hnd
          ⟨Fit.gone (by rw [R.nil0]; rfl), Fit.ro (u := .arr n 3 f) (by rw [hrd z (by simp)]; exact hsv) (fun β => by
            simp only [SV.ren, sndsS_ren, el]
            exact arrCl fun q hq => by rw [isSnd_cl (k2 q hq)]; unfold sndsS; rw [ls_getD hq, isSnd_cl (isSnd_sndS _), sndOf_sndS]) (fun n k f e => by simp only [SV.ren, el] at e; injection e with e1 e2 e3; subst e1 e2; exact ⟨_, rfl⟩), bun_pt g1 (hrd b (by simp)) rfl, bun_dn g2 (hrd d (by simp)) rfl rfl rfl rfl, Fit.gone (by rw [hrd y.i (by simp)]; exact g3), Fit.gone (by rw [hrd y.c (by simp)]; exact g4), bun_po g7 (g9 k1) g8 (hrd y.q (by simp)), Fit.gone (by rw [hrd y.j (by simp)]; exact g5), trivial⟩ hm
          (fun p hp => by cases hp) (by simp) rfl
          ⟨trivial, (fun q => sndsS_stable q), rfl, dnR_st rfl rfl rfl rfl, trivial, trivial, (fun q => i64S_stable q), trivial, trivial⟩ ⟨⟨rfl, rfl⟩, ⟨rfl, trivial⟩, trivial⟩
          ⟨trivial, (fun q => sndsS_stable q), rfl, dnR_st rfl rfl rfl rfl, trivial, trivial, (fun q => i64S_stable q), trivial, trivial⟩ trivial rfl rfl rfl
      · cases hs
    · cases hs
  · cases hs
def cIx : FuncId → Option Spec := look2 [(158, rIx)]
theorem cIx_ok : ∀ f S, cIx f = some S → CallOk Tryz.prog f S := allOk_spec ⟨rIx_ok, trivial⟩
theorem conS_lit (l : List Snd) (ps : List Int) (y : DnI) (hy : y.n3 = ps.length) (hS : ∀ s ∈ l, 0 ≤ s.port ∧ s.port.toNat < ps.length) (hl : ps.length ≤ 1000000) (hll : l.length ≤ 1000000) : LitOk Tryz.prog 125 [.sl 1 1 [] 3 0 l.length none, .fn 126 [.ptr 2 []]] [.gone, .ro (.arr l.length 3 (sndsS l)), .ro (.ptr 3 []), .ro (y.at_ 4 5 6 7), .gone, .gone, .ro (.arr ps.length 1 (i64S ps)), .gone] (.bool (l.any (gonB ps))) [.gone, .gone, .gone, .gone, .gone, .gone, .gone, .gone] := by
  obtain ⟨id, dr, sq, n1, n2, n3, n4, u, i, c, q, j⟩ := y
  dsimp only at hy
  subst hy
  simp only [DnI.at_]
  have e := find_any (gonB ps) l
  refine litOkM (fn := Tryz.f125) 8 9 0 rfl rfl rfl rfl rfl (by simp only [StableL, Stable, hp, dnR, i64S, prS, insS, sndsS, sndS, evtsS, evtS, prO, i64O, inO, HB.stable]; simp [HB.born, dnR]) rfl fun w0 M E hro => ?_
  repeat' (first | refine Ctl.h ?_ | ((with_reducible intro hif); first | (focus (cases hif; done)) | (simp only [JH] at hif; try (exfalso; omega)) | (try (exfalso; omega))) | ((first | ((with_reducible apply J22 cIx_ok tab_ok); (· rfl)) | ((with_reducible apply J23 fol cIx_ok tab_ok); (· rfl)) | with_reducible apply J24); (· (simp only [push_cast, ↓JP, Nat.reduceAdd, Nat.reduceEqDiff, Nat.reduceLT, Nat.reduceMul, Nat.reduceLeDiff, reduceCtorEq, reduceIte, ↓JK, DnI.at_, dnR, cIx, rIx, cloP, dnI, nodupN, memN, JE, isI_int, ls_sndsS, ls_sndsS', inR, inN]; rfl)); (try kernel_rfl); (try (focus (first | exact True.intro | ((try simp only [JS, implies_true, forall_const, shaped, shapedL, kndOf, ls_sndsS, ls_sndsS', ls_i64S', ls_i64S, ls_length]); (repeat' (first | exact True.intro | assumption | omega | apply And.intro | rfl | decide | intro _)); done) | ((try simp only [JS, implies_true, forall_const, shaped, shapedL, kndOf, inR, inN]); (repeat' (first | assumption | exact True.intro | omega | apply And.intro)); done))))) | fail)
  apply At.endsPick [0, 1, 2, 3, 4, 5, 6, 7] tab_ok (fn := Tryz.f125) (rs := [.tmp 4]) Anc.refl hro (Nat.le_of_ble_eq_true rfl) rfl
  · exact Vm.b11
  · exact Vm.b26
  · rfl
  · rfl
  · rfl
  · exact Vm.b40
  · rfl
  · exact Vm.b86
  · exact Vm.b10
  · rw [← e]; exact fun β => rfl
  · exact Vm.b86
def rCF : Spec := fun args h m => match args with
  | [.sl z s [] 3 0 n none, .fn f0 [.ptr b []]] => match (h s).val with
    | some (.arr n' 3 f) => match cloP h b with
      | some (d, y, ps, ok) => bif (Nat.beq z s && Nat.beq n n') && (Nat.beq f0 126 && nodupN [0, s, b, d, y.i, y.c, y.q, y.j]) then
          some (ok ∧ (∀ q, q < n → isSnd (f q) = true) ∧ (∀ s ∈ ls sndOf n f, 0 ≤ s.port ∧ s.port.toNat < ps.length) ∧ ps.length ≤ 1000000 ∧ n ≤ 1000000, .bool ((ls sndOf n f).any (gonB ps)), [s, b, d, y.i, y.c, y.q, y.j], []) else none
      | none => none
    | _ => none
  | _ => none
theorem rCF_ok : CallOk Tryz.prog 125 rCF := by
  refine ⟨named_spec (by kernel_rfl), fun args h m c v rd wr hs hm hc w0 M β h' w R hrd hwr hst => ?_⟩
  unfold rCF at hs
  split at hs
  · rename_i z s n f0 b
    split at hs
    · rename_i n' f hsv
      split at hs
      · rename_i d y ps ok hcp
        obtain ⟨hb, hs⟩ := bif_some hs
        simp only [Option.some.injEq, Prod.mk.injEq] at hs
        obtain ⟨rfl, rfl, rfl, rfl⟩ := hs
        simp only [Bool.and_eq_true] at hb
        obtain ⟨⟨b1, b2⟩, b3, hnd⟩ := hb
        have b1 := Nat.eq_of_beq_eq_true b1
        have b2 := Nat.eq_of_beq_eq_true b2
        have b3 := Nat.eq_of_beq_eq_true b3
        subst b1 b2 b3
        obtain ⟨g1, g2, g3, g4, g5, g6, f2, g7, g8, g9⟩ := cloP_val hcp
        obtain ⟨k1, k2, k3, k4, k5⟩ := hc
        have el : (ls sndOf n f).length = n := ls_length ..
        have ea : denL β [SV.sl z z [] 3 0 n none, .fn 126 [.ptr b []]] = denL β [SV.sl z z [] 3 0 (ls sndOf n f).length none, .fn 126 [.ptr b []]] := by rw [el]
        rw [ea]
        exact bun_ok (h := h) (m := m) [0, z, b, d, y.i, y.c, y.q, y.j] (conS_lit (ls sndOf n f) ps y g6.symm k3 k4 (by rw [el]; exact k5)) R rfl (by simp) rfl rfl hnd
          ⟨Fit.gone (by rw [R.nil0]; rfl), Fit.ro (u := .arr n 3 f) (by rw [hrd z (by simp)]; exact hsv) (fun β => by
            simp only [SV.ren, sndsS_ren, el]
            exact arrCl fun q hq => by rw [isSnd_cl (k2 q hq)]; unfold sndsS; rw [ls_getD hq, isSnd_cl (isSnd_sndS _), sndOf_sndS]) (fun n k f e => by simp only [SV.ren, el] at e; injection e with e1 e2 e3; subst e1 e2; exact ⟨_, rfl⟩), bun_pt g1 (hrd b (by simp)) rfl, bun_dn g2 (hrd d (by simp)) rfl rfl rfl rfl, Fit.gone (by rw [hrd y.i (by simp)]; exact g3), Fit.gone (by rw [hrd y.c (by simp)]; exact g4), bun_po g7 (g9 k1) g8 (hrd y.q (by simp)), Fit.gone (by rw [hrd y.j (by simp)]; exact g5), trivial⟩ hm
          (fun p hp => by cases hp) (by simp) rfl
          ⟨trivial, (fun q => sndsS_stable q), rfl, dnR_st rfl rfl rfl rfl, trivial, trivial, (fun q => i64S_stable q), trivial, trivial⟩ ⟨⟨rfl, rfl⟩, ⟨rfl, trivial⟩, trivial⟩
          ⟨trivial, (fun q => sndsS_stable q), rfl, dnR_st rfl rfl rfl rfl, trivial, trivial, (fun q => i64S_stable q), trivial, trivial⟩ trivial rfl rfl rfl
      · cases hs
    · cases hs
  · cases hs
theorem h2_lit (y : DnI) (h0 : -9000000000000000000 ≤ y.sq) (h1 : y.sq ≤ 9000000000000000000) : LitOk Tryz.prog 127 [.ptr 1 []] [.gone, .ro (.ptr 2 []), .own 82 (y.at_ 3 4 5 6) true, .gone, .gone, .gone, .gone] (.int .i64 y.sq) [.gone, .gone, .own 82 (({ y with sq := y.sq + 1 } : DnI).at_ 3 4 5 6) true, .gone, .gone, .gone, .gone] := by
  obtain ⟨id, dr, sq, n1, n2, n3, n4, u, i, c, q, j⟩ := y
  dsimp only at h0 h1
  simp only [DnI.at_]
  have e : sq + 1 - 1 = sq := by omega
  refine litOkM (fn := Tryz.f127) 7 17 0 rfl rfl rfl rfl rfl (by simp only [StableL, Stable, hp, dnR, i64S, prS, insS, sndsS, sndS, evtsS, evtS, prO, i64O, inO, HB.stable]; simp [HB.born, dnR]) rfl fun w0 M E hro => ?_
  repeat' (first | refine Ctl.h ?_ | ((with_reducible intro hif); first | (focus (cases hif; done)) | (simp only [JH] at hif; try (exfalso; omega)) | (try (exfalso; omega))) | ((first | ((with_reducible apply J22 cIx_ok tab_ok); (· rfl)) | ((with_reducible apply J23 fol cIx_ok tab_ok); (· rfl)) | with_reducible apply J24); (· (simp only [push_cast, ↓JP, Nat.reduceAdd, Nat.reduceEqDiff, Nat.reduceLT, Nat.reduceMul, Nat.reduceLeDiff, reduceCtorEq, reduceIte, ↓JK, dnR, inR, inN]; rfl)); (try kernel_rfl); (try exact Vm.b14)) | fail)
  apply At.endsPick [0, 1, 2, 3, 4, 5, 6] tab_ok (fn := Tryz.f127) (rs := [.tmp 1]) Anc.refl hro (Nat.le_of_ble_eq_true rfl) rfl
  · exact Vm.b11
  · exact Vm.b26
  · rfl
  · rfl
  · rfl
  · exact Vm.b40
  · rfl
  · exact Vm.b86
  · exact Vm.b10
  · (intro β; show Value.int .i64 (sq + 1 - 1) = Value.int .i64 sq; rw [e])
  · exact Vm.b86
def rH2 : Spec := fun args h m => match args with
  | [.ptr b []] => match (h b).val with
    | some (.ptr d []) => match h d with
      | .own t v true => match dnI v with
        | some y => bif (Nat.beq t 82 && nodupN [0, b, d, y.i, y.c, y.q, y.j]) && (((h y.i).born && (h y.c).born) && ((h y.q).born && (h y.j).born)) then
            some (-9000000000000000000 ≤ y.sq ∧ y.sq ≤ 9000000000000000000, .int .i64 y.sq, [b, d, y.i, y.c, y.q, y.j], [(d, .own 82 ({ y with sq := y.sq + 1 } : DnI).v true)]) else none
        | none => none
      | _ => none
    | _ => none
  | _ => none
theorem rH2_ok : CallOk Tryz.prog 127 rH2 := by
  refine ⟨named_spec (by kernel_rfl), fun args h m c v rd wr hs hm hc w0 M β h' w R hrd hwr hst => ?_⟩
  unfold rH2 at hs
  split at hs
  · rename_i b
    split at hs
    · rename_i d hbv
      split at hs
      · rename_i t v0 hd
        split at hs
        · rename_i y hy
          obtain ⟨hb, hs⟩ := bif_some hs
          simp only [Option.some.injEq, Prod.mk.injEq] at hs
          obtain ⟨rfl, rfl, rfl, rfl⟩ := hs
          simp only [Bool.and_eq_true] at hb
          obtain ⟨⟨b1, hnd⟩, ⟨b2, b3⟩, b4, b5⟩ := hb
          have b1 := Nat.eq_of_beq_eq_true b1
          subst b1
          have hv := dnI_val hy
          subst hv
          obtain ⟨k1, k2⟩ := hc
          exact bun_ok (h := h) (m := m) [0, b, d, y.i, y.c, y.q, y.j] (h2_lit y k1 k2) R rfl (by simp) rfl rfl hnd
            ⟨Fit.gone (by rw [R.nil0]; rfl), bun_pt hbv (hrd b (by simp)) rfl, (by
              show Less (h' d) (.own 82 ((y.at_ 3 4 5 6).ren _) true)
              rw [hrd d (by simp), hd, dnR_ren (y := y) rfl rfl rfl rfl]; exact .same _), Fit.gone (by rw [hrd y.i (by simp)]; exact b2), Fit.gone (by rw [hrd y.c (by simp)]; exact b3), Fit.gone (by rw [hrd y.q (by simp)]; exact b4), Fit.gone (by rw [hrd y.j (by simp)]; exact b5), trivial⟩ hm
            (fun p hp => by cases hp) (by simp) rfl
            ⟨trivial, rfl, dnR_st rfl rfl rfl rfl, trivial, trivial, trivial, trivial, trivial⟩ ⟨rfl, trivial⟩
            ⟨trivial, rfl, dnR_st rfl rfl rfl rfl, trivial, trivial, trivial, trivial, trivial⟩ trivial rfl rfl (by
              show [(d, HB.own 82 ((({ y with sq := y.sq + 1 } : DnI).at_ 3 4 5 6).ren _) true)] = _
              rw [dnR_ren (y := ({ y with sq := y.sq + 1 } : DnI)) rfl rfl rfl rfl])
        · cases hs
      · cases hs
    · cases hs
  · cases hs
end Go.Proofs.YtjliakjbdcplcaaGreat.Vm
end

section
namespace Go.Proofs.YtjliakjbdcplcaaGreat.Vm
open Go.RowKit
set_option linter.unusedVariables false
set_option linter.unusedSimpArgs false
set_option maxRecDepth 100000
set_option maxHeartbeats 4000000
def cRb : FuncId → Option Spec := look2 [(52, sRRight), (82, sBegin), (84, sOnB)]
theorem cRb_ok : ∀ f S, cRb f = some S → CallOk Tryz.prog f S := allOk_spec ⟨sRRight_ok, sBegin_ok, sOnB_ok, trivial⟩
theorem rop_bad (P : List Ins) (v : Evi) (t s q o y d f : Int) (cs : List Int) (p1 p2 : Nat) (hP : ∀ x ∈ P, x.ok) (hn : P.length ≤ 1000000) (hc : cs.length ≤ 1000000) (hE : ropE P v (begS y t s cs d) f ≠ 0) : LitOk Tryz.prog 48 [.sl 1 2 [] 5 0 P.length (some p1), .agg [.int .u64 v.seed, .int .i64 v.process, .int .i64 v.ports, .int .i64 v.look, .int .i64 v.now], .agg [.agg [.int .i64 t, .int .i64 s, .int .i64 q], .int .i64 o, .int .i64 y], .sl 3 4 [] 1 0 cs.length (some p2), .int .i64 d, .int .i64 f]
    [.gone, .gone, .ro (.arr P.length 5 (prS P)), .gone, .ro (.arr cs.length 1 (i64S cs))]
    (.tup [.nilp, .int .i64 (ropE P v (begS y t s cs d) f)]) [.gone] := by
  by_cases hr : rrE f = 0
  · have e : ropE P v (begS y t s cs d) f = openE P v (begS y t s cs d) := by unfold ropE; rw [if_pos hr]
    rw [e] at hE ⊢
    refine litOkM (fn := Tryz.f48) 5 29 0 rfl rfl rfl rfl rfl (by simp only [StableL, Stable, hp, i64S, prS, insS, sndsS, sndS, stS, evS, macS, mB, cB, sB, eB, prO, prR, HB.stable]; simp [HB.born]) rfl fun w0 M E hro => ?_
    repeat' (first | refine Ctl.h ?_ | ((with_reducible intro hif); first | (focus (cases hif; done)) | (simp only [JH] at hif; try (exfalso; omega)) | (try (exfalso; omega))) | ((first | ((with_reducible apply J22 cRb_ok tab_ok); (· rfl)) | ((with_reducible apply J23 fol cRb_ok tab_ok); (· rfl)) | with_reducible apply J24); (· (simp only [push_cast, ↓JP, Nat.reduceAdd, Nat.reduceEqDiff, Nat.reduceLT, Nat.reduceMul, Nat.reduceLeDiff, reduceCtorEq, reduceIte, ↓JK, cRb, sRRight, sBegin, sOnB, JE, JB, inR, inN, hr, hE]; rfl)); (try kernel_rfl); (try exact Vm.b52)) | fail)
    apply At.endsRet tab_ok (fn := Tryz.f48) (rs := [.tmp 12, .tmp 13]) Anc.refl hro (Nat.le_of_ble_eq_true rfl) rfl
    · exact Vm.b11
    · exact Vm.b9
    · exact Vm.b6
    · rfl
    · exact Vm.b51
    · exact Vm.b10
    · exact fun β => rfl
    · exact Vm.b51
  · have e : ropE P v (begS y t s cs d) f = rrE f := by unfold ropE; rw [if_neg hr]
    rw [e]
    refine litOkM (fn := Tryz.f48) 5 29 0 rfl rfl rfl rfl rfl (by simp only [StableL, Stable, hp, i64S, prS, insS, sndsS, sndS, stS, evS, macS, mB, cB, sB, eB, prO, prR, HB.stable]; simp [HB.born]) rfl fun w0 M E hro => ?_
    repeat' (first | refine Ctl.h ?_ | ((with_reducible intro hif); first | (focus (cases hif; done)) | (simp only [JH] at hif; try (exfalso; omega)) | (try (exfalso; omega))) | ((first | ((with_reducible apply J22 cRb_ok tab_ok); (· rfl)) | ((with_reducible apply J23 fol cRb_ok tab_ok); (· rfl)) | with_reducible apply J24); (· (simp only [push_cast, ↓JP, Nat.reduceAdd, Nat.reduceEqDiff, Nat.reduceLT, Nat.reduceMul, Nat.reduceLeDiff, reduceCtorEq, reduceIte, ↓JK, cRb, sRRight, sBegin, sOnB, JE, JB, inR, inN, hr]; rfl)); (try kernel_rfl); (try exact Vm.b52)) | fail)
    apply At.endsRet tab_ok (fn := Tryz.f48) (rs := [.tmp 12, .tmp 13]) Anc.refl hro (Nat.le_of_ble_eq_true rfl) rfl
    · exact Vm.b11
    · exact Vm.b9
    · exact Vm.b6
    · rfl
    · exact Vm.b51
    · exact Vm.b10
    · exact fun β => rfl
    · exact Vm.b51
def sRoG : Spec := fun args h m => match args with
  | [v1, .agg [v2, v3, v4, v5, v6], .agg [.agg [v7, v8, v9], v10, v11], v12, v13, v14] => match srcV h 5 (.tup []) v1, srcV h 1 (.tup []) v12 with
    | some (c1, n1, f1, r1), some (c12, n12, f12, r12) => bif isI .u64 v2 && isI .i64 v3 && isI .i64 v4 && isI .i64 v5 && isI .i64 v6 && isI .i64 v7 && isI .i64 v8 && isI .i64 v9 && isI .i64 v10 && isI .i64 v11 && isI .i64 v13 && isI .i64 v14 then some (c1 ∧ c12 ∧ (∀ q, q < n1 → isIns (f1 q) = true) ∧ (∀ q, q < n12 → isI .i64 (f12 q) = true) ∧ ((∀ x ∈ (ls insOf n1 f1), x.ok)) ∧ (n1 ≤ 1000000) ∧ (n12 ≤ 1000000) ∧ (ropE (ls insOf n1 f1) ⟨(iOf v2), (iOf v3), (iOf v4), (iOf v5), (iOf v6)⟩ (begS (iOf v11) (iOf v7) (iOf v8) (ls iOf n12 f12) (iOf v13)) (iOf v14) = 0), .tup [.ptr m [], .int .i64 0], r1 ++ r12, [(m, eB (m + 1) (m + 4) (ls insOf n1 f1).length), (m + 1, mB (begS (iOf v11) (iOf v7) (iOf v8) (ls iOf n12 f12) (iOf v13)) ⟨(iOf v2), (iOf v3), (iOf v4), (iOf v5), (iOf v6)⟩ Ins0 (m + 2) (m + 3)), (m + 2, cB (begS (iOf v11) (iOf v7) (iOf v8) (ls iOf n12 f12) (iOf v13))), (m + 3, sB (begS (iOf v11) (iOf v7) (iOf v8) (ls iOf n12 f12) (iOf v13))), (m + 4, prO (ls insOf n1 f1))]) else none
    | _, _ => none
  | _ => none
theorem sRoG_ok : CallOk Tryz.prog 48 sRoG := by
  refine ⟨named_spec (by kernel_rfl), fun args h m c v rd wr hs hm hc w0 M β h' w R hrd hwr hst => ?_⟩
  unfold sRoG at hs
  split at hs
  · rename_i v1 v2 v3 v4 v5 v6 v7 v8 v9 v10 v11 v12 v13 v14
    split at hs
    · rename_i c1 n1 f1 r1 c12 n12 f12 r12 a1 a12
      obtain ⟨hb, hs⟩ := bif_some hs
      simp only [Option.some.injEq, Prod.mk.injEq] at hs
      obtain ⟨rfl, rfl, rfl, rfl⟩ := hs
      simp only [Bool.and_eq_true] at hb
      obtain ⟨⟨⟨⟨⟨⟨⟨⟨⟨⟨⟨b2, b3⟩, b4⟩, b5⟩, b6⟩, b7⟩, b8⟩, b9⟩, b10⟩, b11⟩, b13⟩, b14⟩ := hb
      obtain ⟨k1, k12, g1, g12, y1, y2, y3, y4⟩ := hc
      obtain ⟨A1, p1, d1, e1, t1⟩ := reads_src R a1 k1 (fun i hi => hrd i (List.mem_append_left _ hi)) (by omega)
      obtain ⟨A12, p12, d12, e12, t12⟩ := reads_src R a12 k12 (fun i hi => hrd i (List.mem_append_right _ hi)) (by omega)
      refine callRo (views := [⟨5, (ls insOf n1 f1).length, prS (ls insOf n1 f1), A1, p1⟩, ⟨1, (ls iOf n12 f12).length, i64S (ls iOf n12 f12), A12, p12⟩]) (rop_good (ls insOf n1 f1) ⟨(iOf v2), (iOf v3), (iOf v4), (iOf v5), (iOf v6)⟩ (iOf v7) (iOf v8) (iOf v9) (iOf v10) (iOf v11) (iOf v13) (iOf v14) (ls iOf n12 f12) p1 p12 y1 (by rw [ls_length]; exact y2) (by rw [ls_length]; exact y3) y4) ?_ R hm hwr ?_ ?_ ?_
      · intro x hx
        simp only [List.mem_cons, List.not_mem_nil, or_false] at hx
        rcases hx with rfl | rfl
        · exact viewIns t1 e1 g1
        · exact viewI64 t12 e12 g12
      · intro β1 hv
        simp only [Vd, ls_length, and_true] at hv
        obtain ⟨z1, z12⟩ := hv
        simp only [denL, aggDen, intDen, natDen, boolDen, ls_length, z1, z12, d1, d12, isI_den b2, isI_den b3, isI_den b4, isI_den b5, isI_den b6, isI_den b7, isI_den b8, isI_den b9, isI_den b10, isI_den b11, isI_den b13, isI_den b14]
      · exact Vm.b51
      · exact Vm.b51
    · cases hs
  · cases hs
def sRoB : Spec := fun args h m => match args with
  | [v1, .agg [v2, v3, v4, v5, v6], .agg [.agg [v7, v8, v9], v10, v11], v12, v13, v14] => match srcV h 5 (.tup []) v1, srcV h 1 (.tup []) v12 with
    | some (c1, n1, f1, r1), some (c12, n12, f12, r12) => bif isI .u64 v2 && isI .i64 v3 && isI .i64 v4 && isI .i64 v5 && isI .i64 v6 && isI .i64 v7 && isI .i64 v8 && isI .i64 v9 && isI .i64 v10 && isI .i64 v11 && isI .i64 v13 && isI .i64 v14 then some (c1 ∧ c12 ∧ (∀ q, q < n1 → isIns (f1 q) = true) ∧ (∀ q, q < n12 → isI .i64 (f12 q) = true) ∧ ((∀ x ∈ (ls insOf n1 f1), x.ok)) ∧ (n1 ≤ 1000000) ∧ (n12 ≤ 1000000) ∧ (ropE (ls insOf n1 f1) ⟨(iOf v2), (iOf v3), (iOf v4), (iOf v5), (iOf v6)⟩ (begS (iOf v11) (iOf v7) (iOf v8) (ls iOf n12 f12) (iOf v13)) (iOf v14) ≠ 0), .tup [.nilp, .int .i64 (ropE (ls insOf n1 f1) ⟨(iOf v2), (iOf v3), (iOf v4), (iOf v5), (iOf v6)⟩ (begS (iOf v11) (iOf v7) (iOf v8) (ls iOf n12 f12) (iOf v13)) (iOf v14))], r1 ++ r12, []) else none
    | _, _ => none
  | _ => none
theorem sRoB_ok : CallOk Tryz.prog 48 sRoB := by
  refine ⟨named_spec (by kernel_rfl), fun args h m c v rd wr hs hm hc w0 M β h' w R hrd hwr hst => ?_⟩
  unfold sRoB at hs
  split at hs
  · rename_i v1 v2 v3 v4 v5 v6 v7 v8 v9 v10 v11 v12 v13 v14
    split at hs
    · rename_i c1 n1 f1 r1 c12 n12 f12 r12 a1 a12
      obtain ⟨hb, hs⟩ := bif_some hs
      simp only [Option.some.injEq, Prod.mk.injEq] at hs
      obtain ⟨rfl, rfl, rfl, rfl⟩ := hs
      simp only [Bool.and_eq_true] at hb
      obtain ⟨⟨⟨⟨⟨⟨⟨⟨⟨⟨⟨b2, b3⟩, b4⟩, b5⟩, b6⟩, b7⟩, b8⟩, b9⟩, b10⟩, b11⟩, b13⟩, b14⟩ := hb
      obtain ⟨k1, k12, g1, g12, y1, y2, y3, y4⟩ := hc
      obtain ⟨A1, p1, d1, e1, t1⟩ := reads_src R a1 k1 (fun i hi => hrd i (List.mem_append_left _ hi)) (by omega)
      obtain ⟨A12, p12, d12, e12, t12⟩ := reads_src R a12 k12 (fun i hi => hrd i (List.mem_append_right _ hi)) (by omega)
      refine callRo (views := [⟨5, (ls insOf n1 f1).length, prS (ls insOf n1 f1), A1, p1⟩, ⟨1, (ls iOf n12 f12).length, i64S (ls iOf n12 f12), A12, p12⟩]) (rop_bad (ls insOf n1 f1) ⟨(iOf v2), (iOf v3), (iOf v4), (iOf v5), (iOf v6)⟩ (iOf v7) (iOf v8) (iOf v9) (iOf v10) (iOf v11) (iOf v13) (iOf v14) (ls iOf n12 f12) p1 p12 y1 (by rw [ls_length]; exact y2) (by rw [ls_length]; exact y3) y4) ?_ R hm hwr ?_ ?_ ?_
      · intro x hx
        simp only [List.mem_cons, List.not_mem_nil, or_false] at hx
        rcases hx with rfl | rfl
        · exact viewIns t1 e1 g1
        · exact viewI64 t12 e12 g12
      · intro β1 hv
        simp only [Vd, ls_length, and_true] at hv
        obtain ⟨z1, z12⟩ := hv
        simp only [denL, aggDen, intDen, natDen, boolDen, ls_length, z1, z12, d1, d12, isI_den b2, isI_den b3, isI_den b4, isI_den b5, isI_den b6, isI_den b7, isI_den b8, isI_den b9, isI_den b10, isI_den b11, isI_den b13, isI_den b14]
      · exact Vm.b51
      · exact Vm.b51
    · cases hs
  · cases hs
end Go.Proofs.YtjliakjbdcplcaaGreat.Vm
end

section
namespace Go.Proofs.YtjliakjbdcplcaaGreat.Vm
open Go.RowKit
set_option linter.unusedVariables false
set_option linter.unusedSimpArgs false
set_option maxRecDepth 100000
set_option maxHeartbeats 4000000
def cRun : FuncId → Option Spec := look2 [(48, sRoG), (49, sSteps), (89, eEnded), (90, eAt), (91, eStep), (50, eState)]
theorem cRun_ok : ∀ f S, cRun f = some S → CallOk Tryz.prog f S := allOk_spec ⟨sRoG_ok, sSteps_ok, eEnded_ok, eAt_ok, eStep_ok, eState_ok, trivial⟩
structure RS where
  k : Nat
  s : Sta
  x : Ins
  tr : List Int
  a : Int
structure RInv (P : List Ins) (v : Evi) (f : Int) (r : RR) (y : RS) : Prop where
  k : y.k ≤ f.toNat
  g : SG P y.s
  l : y.tr.length = y.k
  r : runA P v (f.toNat - y.k) y.s y.x y.tr y.a = r
theorem less_res {t : Nat} {ex : Bool} {w : SV} {u d : SV} : Less (.own t (.agg [.nat .i64 0, .nat .i64 0, w, u, d]) ex) (.own t (.agg [.nat .i64 0, .int .i64 0, w, u, d]) ex) :=
  .val (fun β => rfl) (fun n k f e => by cases e) (fun n k f e => by cases e)
theorem Run_good (P : List Ins) (v : Evi) (t s q o y d f : Int) (cs : List Int) (p1 p2 : Nat) (hP : PG P) (V : VOk v) (hc : cs.length ≤ 1000000) (hE : ropE P v (begS y t s cs d) f = 0) (r : RR) (hr : runA P v f.toNat (begS y t s cs d) Ins0 [] 0 = r) (hb : r.bad = 0) : LitOk Tryz.prog 13 [.sl 1 2 [] 5 0 P.length (some p1), .agg [.int .u64 v.seed, .int .i64 v.process, .int .i64 v.ports, .int .i64 v.look, .int .i64 v.now], .agg [.agg [.int .i64 t, .int .i64 s, .int .i64 q], .int .i64 o, .int .i64 y], .sl 3 4 [] 1 0 cs.length (some p2), .int .i64 d, .int .i64 f]
    [.gone, .gone, .ro (.arr P.length 5 (prS P)), .gone, .ro (.arr cs.length 1 (i64S cs))]
    (.tup [.agg [.nat .i64 r.tr.length, .int .i64 r.at_, .sl 5 5 [] 1 0 r.s.cells.length none, .int .i64 r.s.draws, .sl 6 6 [] 3 0 r.s.sends.length none], .int .i64 0]) [.gone, .gone, .gone, .gone, .gone, cB r.s, sB r.s] := by
  have hok := hP.ok
  have hn := hP.len
  have hn' : P.length ≤ 1000000 := by omega
  have hf := (ropE_zero hE).1
  have hO := openE_zero (ropE_zero hE).2
  have hG : SG P (begS y t s cs d) := SG.of hO.2.2 (by simp [begS])
  obtain ⟨s0, hs0⟩ : ∃ s0, begS y t s cs d = s0 := ⟨_, rfl⟩
  rw [hs0] at hE hr hG
  have hl0 : ∀ ex, Less (.own 42 (.agg [.nat .i64 0, .nat .i64 0, .sl 0 0 [] 0 0 0 (some 0), .nat .i64 0, .sl 0 0 [] 0 0 0 (some 0)]) ex) (.own 42 (.agg [.nat .i64 0, .int .i64 0, .sl 0 0 [] 0 0 0 (some 0), .nat .i64 0, .sl 0 0 [] 0 0 0 (some 0)]) ex) := fun ex => less_res
  have hl1 := hl0 true
  refine litOkM (fn := Tryz.f13) 5 66 0 rfl rfl rfl rfl rfl (by simp only [StableL, Stable, hp, i64S, prS, insS, sndsS, sndS, stS, evS, macS, mB, cB, sB, eB, prO, prR, pbB, fbB, HB.stable]; simp [HB.born]) rfl fun w0 M E hro => ?_
  repeat' (first | refine Ctl.h ?_ | ((with_reducible intro hif); first | (focus (cases hif; done)) | (simp only [JH] at hif; try (exfalso; omega)) | (try (exfalso; omega))) | ((first | ((with_reducible apply J22 cRun_ok tab_ok); (· rfl)) | ((with_reducible apply J23 fol cRun_ok tab_ok); (· rfl)) | with_reducible apply J24); (· exact Vm.b98); (try kernel_rfl); (try exact Vm.b97)) | fail)
  with_reducible apply WF.range (fn' := Tryz.f88) 28
  · exact Vm.b58
  · exact Vm.b26
  · rfl
  · rfl
  · rfl
  · rfl
  · rfl
  · rfl
  · rfl
  intro E1 rec tmps after hE1 hrec hcf haft
  repeat' (first | refine Ctl.h ?_ | ((with_reducible intro hif); first | (focus (cases hif; done)) | (simp only [JH] at hif; try (exfalso; omega)) | (try (exfalso; omega))) | ((first | ((with_reducible apply J22 cRun_ok tab_ok); (· rfl)) | ((with_reducible apply J23 fol cRun_ok tab_ok); (· rfl)) | with_reducible apply J24); (· exact Vm.b99); (try kernel_rfl); (try exact Vm.b14)) | fail)
  refine At.pick (L2 := [.gone, .gone, .ro (.arr P.length 5 (prS P)), .gone, .ro (.arr cs.length 1 (i64S cs)), .gone, .gone, .own 42 (.agg [.nat .i64 0, .nat .i64 0, .sl 0 0 [] 0 0 0 (some 0), .nat .i64 0, .sl 0 0 [] 0 0 0 (some 0)]) true, eB 9 12 P.length, mB s0 v Ins0 10 19, cB s0, .gone, prO P, .own 43 (.int .i64 0) true, .own 42 (.agg [.nat .i64 0, .int .i64 0, .sl 0 0 [] 0 0 0 (some 0), .nat .i64 0, .sl 0 0 [] 0 0 0 (some 0)]) true, pbB 8, fbB f, .raw (.deferred (some [])), .raw (.loop (rec .ready none)), sB s0]) (φ2 := [(0, .yl 18), (1, .ptr 15 []), (2, .ptr 16 []), (4, .nat .i64 0)]) [0, 1, 2, 3, 4, 5, 6, 7, 8, 9, 10, 11, 12, 13, 14, 15, 16, 17, 18, 11] rfl rfl rfl ?_ rfl ?_ ?_ ?_ rfl ?_
  · exact Vm.b87
  · exact Vm.b88
  · exact Vm.b67
  · exact Vm.b88
  refine WF.loopAt (fun (z : RS) => RInv P v f r z) (fun (z : RS) => [(0, .yl 18), (1, .ptr 15 []), (2, .ptr 16 []), (4, .nat .i64 z.k)]) (fun (z : RS) => [.gone, .gone, .ro (.arr P.length 5 (prS P)), .gone, .ro (.arr cs.length 1 (i64S cs)), .gone, .gone, .own 42 (.agg [.nat .i64 0, .nat .i64 0, .sl 0 0 [] 0 0 0 (some 0), .nat .i64 0, .sl 0 0 [] 0 0 0 (some 0)]) true, eB 9 12 P.length, mB z.s v z.x 10 19, cB z.s, .gone, prO P, .own 43 (.int .i64 0) true, .own 42 (.agg [.nat .i64 z.k, .int .i64 z.a, .sl 0 0 [] 0 0 0 (some 0), .nat .i64 0, .sl 0 0 [] 0 0 0 (some 0)]) true, pbB 8, fbB f, .raw (.deferred (some [])), .raw (.loop (rec .ready none)), sB z.s]) (fun (z : RS) => f.toNat - z.k) ⟨0, s0, Ins0, [], 0⟩ ⟨Nat.zero_le _, hG, rfl, hr⟩ ?_ ?_ rfl ?_ ?_ rfl ?_
  · exact Vm.b5
  · exact Vm.b6
  · exact Vm.b88
  · exact Vm.b88
  rintro ⟨k, ⟨at1, en, rg, ce, dr, se⟩, x, tr, a⟩ ⟨hk, hg, hl, hr1⟩
  dsimp only at hk hg hl hr1 ⊢
  cases en
  · have hkf : k < f.toNat := by
      rcases Nat.lt_or_ge k f.toNat with h | h
      · exact h
      · exfalso
        have e0 : f.toNat - k = 0 := by omega
        rw [e0, runA_zero rfl] at hr1
        rw [← hr1] at hb
        cases hb
    have hst : stepE P v ⟨at1, false, rg, ce, dr, se⟩ = 0 := by
      by_cases h : stepE P v ⟨at1, false, rg, ce, dr, se⟩ = 0
      · exact h
      · rw [runA_bad rfl (by omega) h] at hr1
        rw [← hr1] at hb
        exact absurd hb h
    have hkf2 : (k : Int) < f := by omega
    repeat' (first | refine Ctl.h ?_ | ((with_reducible intro hif); first | (focus (cases hif; done)) | (simp only [JH] at hif; try (exfalso; omega)) | (try (exfalso; omega))) | ((first | ((with_reducible apply J22 cRun_ok tab_ok); (· rfl)) | ((with_reducible apply J23 fol cRun_ok tab_ok); (· rfl)) | with_reducible apply J24); (· exact Vm.b100); (try kernel_rfl); (try exact Vm.b14)) | fail)
    with_reducible apply WF.split 3 5
    · rfl
    with_reducible apply At.run cRun_ok tab_ok
    · rfl
    · rfl
    · rfl
    · exact Vm.b89
    · exact Vm.b60
    with_reducible apply At.yield (gr := _)
    · rfl
    · rfl
    · rfl
    · rfl
    · rfl
    · rfl
    · exact Vm.b89
    · exact Vm.b90
    · exact Vm.b89
    · exact Vm.b60
    · exact Vm.b89
    · exact Vm.b60
    · exact Vm.b90
    · exact hrec
    · exact hcf
    · rfl
    · rfl
    · rfl
    intro lb E2 next hE2 hnext
    repeat' (first | refine Ctl.h ?_ | ((with_reducible intro hif); first | (focus (cases hif; done)) | (simp only [JH] at hif; try (exfalso; omega)) | (try (exfalso; omega))) | ((first | ((with_reducible apply J22 cRun_ok tab_ok); (· rfl)) | ((with_reducible apply J23 fol cRun_ok tab_ok); (· rfl)) | with_reducible apply J24); (· exact Vm.b101); (try kernel_rfl); (try exact Vm.b14)) | fail)
    with_reducible apply At.begins hrec
    · rfl
    with_reducible refine At.code ?_
    repeat' (first | refine Ctl.h ?_ | ((with_reducible intro hif); first | (focus (cases hif; done)) | (simp only [JH] at hif; try (exfalso; omega)) | (try (exfalso; omega))) | ((first | ((with_reducible apply J22 cRun_ok tab_ok); (· rfl)) | ((with_reducible apply J23 fol cRun_ok tab_ok); (· rfl)) | with_reducible apply J24); (· exact Vm.b101); (try kernel_rfl); (try exact Vm.b14)) | fail)
    with_reducible apply At.roundNormal
    · exact Vm.b90
    apply hnext
    with_reducible apply At.runEnd cRun_ok tab_ok
    · rfl
    · rfl
    · rfl
    · exact Vm.b89
    · exact Vm.b60
    repeat' (first | refine Ctl.h ?_ | ((with_reducible intro hif); first | (focus (cases hif; done)) | (simp only [JH] at hif; try (exfalso; omega)) | (try (exfalso; omega))) | ((first | ((with_reducible apply J22 cRun_ok tab_ok); (· rfl)) | ((with_reducible apply J23 fol cRun_ok tab_ok); (· rfl)) | with_reducible apply J24); (· exact Vm.b101); (try kernel_rfl); (try exact Vm.b14)) | fail)
    refine At.nextPick [0, 1, 2, 3, 4, 5, 6, 7, 8, 9, 10, 11, 12, 13, 14, 15, 16, 17, 18, 20] ⟨k + 1, stepS P v ⟨at1, false, rg, ce, dr, se⟩, stepX P ⟨at1, false, rg, ce, dr, se⟩ x, tr ++ [at1], at1⟩ ?_ rfl rfl rfl ?_ rfl ?_ ?_ ?_ rfl
    · exact Vm.b91
    · exact Vm.b40
    · exact Vm.b88
    · exact Vm.b67
    · exact Vm.b88
  · rw [runA_end rfl] at hr1
    subst hr1
    have hcl := hg.c1
    have hsl := hg.n1
    dsimp only at hcl hsl
    have hcl2 : ce.length ≤ 1000000 := by omega
    repeat' (first | refine Ctl.h ?_ | ((with_reducible intro hif); first | (focus (cases hif; done)) | (simp only [JH] at hif; try (exfalso; omega)) | (try (exfalso; omega))) | ((first | ((with_reducible apply J22 cRun_ok tab_ok); (· rfl)) | ((with_reducible apply J23 fol cRun_ok tab_ok); (· rfl)) | with_reducible apply J24); (· exact Vm.b102); (try kernel_rfl); (try exact Vm.b14)) | fail)
    with_reducible apply At.itNormal .ready
    · rfl
    · rfl
    · intro h; cases h
    apply haft
    intro w1 M1 D1 hA
    dsimp only
    repeat' (first | refine Ctl.h ?_ | ((with_reducible intro hif); first | (focus (cases hif; done)) | (simp only [JH] at hif; try (exfalso; omega)) | (try (exfalso; omega))) | ((first | ((with_reducible apply J22 cRun_ok tab_ok); (· rfl)) | ((with_reducible apply J23 fol cRun_ok tab_ok); (· rfl)) | with_reducible apply J24); (· exact Vm.b102); (try kernel_rfl); (try exact Vm.b14)) | fail)
    apply At.endsPick [0, 1, 2, 3, 4, 20, 21] tab_ok (fn := Tryz.f13) (rs := [.cell 12 42, .tmp 13]) hA hro (Nat.le_of_ble_eq_true rfl) rfl
    · exact Vm.b11
    · exact Vm.b26
    · rfl
    · rfl
    · rfl
    · exact Vm.b40
    · rfl
    · exact Vm.b88
    · exact Vm.b10
    · exact fun β => by rw [hl]; rfl
    · exact Vm.b88
end Go.Proofs.YtjliakjbdcplcaaGreat.Vm
end
end

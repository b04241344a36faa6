import Derived.Test.YtjliakjbdcplcaaP6
import Derived.Test.YtjliakjbdcplcaaP7
import Derived.Test.YtjliakjbdcplcaaP8
import Derived.Test.YtjliakjbdcplcaaP9
import Derived.Test.YtjliakjbdcplcaaP11
import Derived.Test.YtjliakjbdcplcaaP14
section
namespace Go.Proofs.Ytjliakjbdcplcaa.Vm
theorem b107 {P : Prop} (h : P := by rw [Nat.min_eq_left h, List.take_of_length_le (Nat.le_refl _), List.take_of_length_le h]) : P := h
theorem b108 {P : Prop} (h : P := by (repeat' (first | exact trivial | exact rfl | assumption | apply Stable.ite | apply And.intro | intro _ | (simp only [Stable, StableL, i64S, prS, insS, sndsS, sndS, stS, evS, macS, HB.stable]; done)))) : P := h
theorem b109 {P : Prop} (h : P := by (repeat' (first | exact trivial | exact .inl rfl | exact .inr (.same _) | exact .inr .loose | exact .inr (.arr (by assumption)) | apply And.intro | (exact .inr (hY _)) | (exact .inr (hY0 _)) | (rw [nilS_f hne]; exact .inr (by simp only [mSnd_len]; exact .same _)) | (exact .inr (by rw [hm1]; exact .same _))))) : P := h
theorem b110 {P : Prop} (h : P := by simp only [push_cast, ↓JP, Nat.reduceAdd, Nat.reduceEqDiff, Nat.reduceLT, Nat.reduceMul, Nat.reduceLeDiff, reduceCtorEq, reduceIte, ↓JK, noDefer, List.drop_zero, List.drop_succ_cons, JE, prc_eta, cAG, sPCheck, sTakes, sPCopy, sKCmp, rHs, pcS, prO, i64O, inO, evm_ev, rHaB, rHaG, donP, dnI, isIns_insS, isI_int, isEvt_evtS, evtOf_evtS, ls_evtsS, ls_evtsS', nodupN, memN, inR, inN, ↓evtS_sz, ↓evtS_ag, ↓evtS_pl, nav_evt, nav_evt0, nav_evt1, nav_evt2, rul_eta, ls_zero, JB, dnS, dnR, dnB, evO_, dn0, evtsS, dnn_eta, hkl, he, h0]; rfl) : P := h
theorem b111 {P : Prop} (h : P := by (focus (first | exact True.intro | ((try simp only [JS, implies_true, forall_const, shaped, shapedL, kndOf, ls_prS, ls_prS', ls_i64S', ls_i64S, ls_evtsS', ls_evtsS, ls_length, evtOf_evtS, prc_eta, iOf]); (repeat' (first | exact True.intro | assumption | omega | apply And.intro | rfl | decide | intro _)); done) | ((try simp only [JS, implies_true, forall_const, shaped, shapedL, kndOf, inR, inN]); (repeat' (first | assumption | exact True.intro | omega | apply And.intro)); done)))) : P := h
theorem b112 {P : Prop} (h : P := by first | rfl | (simp only [push_cast, ↓JP, Nat.reduceAdd, Nat.reduceEqDiff, Nat.reduceLT, Nat.reduceMul, Nat.reduceLeDiff, reduceCtorEq, reduceIte, ↓JK, noDefer, List.drop_zero, List.drop_succ_cons, JE, prc_eta, cAG, sPCheck, sTakes, sPCopy, sKCmp, rHs, pcS, prO, i64O, inO, evm_ev, rHaB, rHaG, donP, dnI, isIns_insS, isI_int, isEvt_evtS, evtOf_evtS, ls_evtsS, ls_evtsS', nodupN, memN, inR, inN, ↓evtS_sz, ↓evtS_ag, ↓evtS_pl, nav_evt, nav_evt0, nav_evt1, nav_evt2, rul_eta, ls_zero, JB, dnS, dnR, dnB, evO_, dn0, evtsS, dnn_eta, hkl, he, h0]; done)) : P := h
theorem b113 {P : Prop} (h : P := by simp only [push_cast, ↓JP, Nat.reduceAdd, Nat.reduceEqDiff, Nat.reduceLT, Nat.reduceMul, Nat.reduceLeDiff, reduceCtorEq, reduceIte, ↓JK, noDefer, List.drop_zero, List.drop_succ_cons, JE, prc_eta, cAB, sPCheck, sTakes, sPCopy, sKCmp, rHs, pcS, prO, i64O, inO, evm_ev, rHaB, rHaG, donP, dnI, isIns_insS, isI_int, isEvt_evtS, evtOf_evtS, ls_evtsS, ls_evtsS', nodupN, memN, inR, inN, ↓evtS_sz, ↓evtS_ag, ↓evtS_pl, nav_evt, nav_evt0, nav_evt1, nav_evt2, rul_eta, ls_zero, JB, dnS, dnR, dnB, evO_, dn0, evtsS, dnn_eta, hkl, he, hk1]; rfl) : P := h
theorem b114 {P : Prop} (h : P := by first | rfl | (simp only [push_cast, ↓JP, Nat.reduceAdd, Nat.reduceEqDiff, Nat.reduceLT, Nat.reduceMul, Nat.reduceLeDiff, reduceCtorEq, reduceIte, ↓JK, noDefer, List.drop_zero, List.drop_succ_cons, JE, prc_eta, cAB, sPCheck, sTakes, sPCopy, sKCmp, rHs, pcS, prO, i64O, inO, evm_ev, rHaB, rHaG, donP, dnI, isIns_insS, isI_int, isEvt_evtS, evtOf_evtS, ls_evtsS, ls_evtsS', nodupN, memN, inR, inN, ↓evtS_sz, ↓evtS_ag, ↓evtS_pl, nav_evt, nav_evt0, nav_evt1, nav_evt2, rul_eta, ls_zero, JB, dnS, dnR, dnB, evO_, dn0, evtsS, dnn_eta, hkl, he, hk1]; done)) : P := h
theorem b115 {P : Prop} (h : P := by (simp only [push_cast, ↓JP, Nat.reduceAdd, Nat.reduceEqDiff, Nat.reduceLT, Nat.reduceMul, Nat.reduceLeDiff, reduceCtorEq, reduceIte, ↓JK, JM, JE, cM18, sCl64, inR, inN, Nat.sub_zero, hm2, hm2', hlt2]; rfl)) : P := h
theorem b116 {P : Prop} (h : P := by (first | exact True.intro | ((try simp only [JS, implies_true, forall_const, shaped, shapedL, kndOf, ls_prS, ls_prS', ls_i64S', ls_i64S, ls_evtsS', ls_evtsS, ls_length, evtOf_evtS, prc_eta, iOf]); (repeat' (first | exact True.intro | assumption | omega | apply And.intro | rfl | decide | intro _)); done) | ((try simp only [JS, implies_true, forall_const, shaped, shapedL, kndOf, inR, inN]); (repeat' (first | assumption | exact True.intro | omega | apply And.intro)); done))) : P := h
theorem b117 {P : Prop} (h : P := by (simp only [push_cast, ↓JP, Nat.reduceAdd, Nat.reduceEqDiff, Nat.reduceLT, Nat.reduceMul, Nat.reduceLeDiff, reduceCtorEq, reduceIte, ↓JK, JE, prc_eta, cA0, sPCheck, sTakes, sPCopy, sKCmp, rHs, pcS, prO, i64O, inO, evm_ev, rHaB, rHaG, donP, dnI, isIns_insS, isI_int, isEvt_evtS, evtOf_evtS, ls_evtsS, ls_evtsS', nodupN, memN, inR, inN, ↓evtS_sz, ↓evtS_ag, ↓evtS_pl, nav_evt, nav_evt0, nav_evt1, nav_evt2, rul_eta, ls_zero, JB, dnS, dnR, dnB, evO_, dn0, evtsS, dnn_eta]; rfl)) : P := h
theorem b118 {P : Prop} (h : P := by (simp only [push_cast, ↓JP, Nat.reduceAdd, Nat.reduceEqDiff, Nat.reduceLT, Nat.reduceMul, Nat.reduceLeDiff, reduceCtorEq, reduceIte, ↓JK, JE, prc_eta, cAG, sPCheck, sTakes, sPCopy, sKCmp, rHs, pcS, prO, i64O, inO, evm_ev, rHaB, rHaG, donP, dnI, isIns_insS, isI_int, isEvt_evtS, evtOf_evtS, ls_evtsS, ls_evtsS', nodupN, memN, inR, inN, ↓evtS_sz, ↓evtS_ag, ↓evtS_pl, nav_evt, nav_evt0, nav_evt1, nav_evt2, rul_eta, ls_zero, JB, dnS, dnR, dnB, evO_, dn0, evtsS, dnn_eta, hkl, he, h0]; rfl)) : P := h
theorem b119 {P : Prop} (h : P := by (simp only [push_cast, ↓JP, Nat.reduceAdd, Nat.reduceEqDiff, Nat.reduceLT, Nat.reduceMul, Nat.reduceLeDiff, reduceCtorEq, reduceIte, ↓JK, JE, prc_eta, cAB, sPCheck, sTakes, sPCopy, sKCmp, rHs, pcS, prO, i64O, inO, evm_ev, rHaB, rHaG, donP, dnI, isIns_insS, isI_int, isEvt_evtS, evtOf_evtS, ls_evtsS, ls_evtsS', nodupN, memN, inR, inN, ↓evtS_sz, ↓evtS_ag, ↓evtS_pl, nav_evt, nav_evt0, nav_evt1, nav_evt2, rul_eta, ls_zero, JB, dnS, dnR, dnB, evO_, dn0, evtsS, dnn_eta, hkl, he, hk1]; rfl)) : P := h
end Go.Proofs.Ytjliakjbdcplcaa.Vm
end
section
open Go.Proofs.Ytjliakjbdcplcaa.Vm Go.RowKit
attribute [local push_cast] runR opG gtmp gval gus opX tmpsOf tm tmO tmP restr look look2 tab tys zs ets eqB eqBL allB numOf ieq Int.cast_ofNat_Int Int.ofNat_zero beq_true beq_false frameOf ev evL ofV opV loadV noW pushF wrsL setH allBorn allGone HB.born HB.isGone HB.val SV.plain dstOk hp nav fitsT SV.size sizeL SV.isAgg TK.size TK.agg bin binE binN binI arN arI cmpN cmpI keq kn narrow callV storeV setp fillV buildV buildSliceV makeV sliceV appendV appendFV slice3V copyV List.isEmpty_nil srcV evO asN ite_t ite_f ite_bool ite_int ite_nat maxV v_beq v_ble v_blt cond_true cond_false List.getElem?_cons_zero List.getElem?_cons_succ List.getD_cons_zero List.getD_cons_succ List.getD_nil List.length_cons List.length_nil List.take_succ_cons List.take_zero List.set_cons_zero List.set_cons_succ List.cons_append List.nil_append List.append_assoc List.replicate_succ List.replicate_zero Nat.zero_add Nat.add_zero decide_true decide_false Bool.true_and Bool.and_true Bool.false_and Bool.and_false Bool.true_or Bool.or_true Bool.false_or Bool.or_false beq_self_eq_true Bool.or_self Nat.lt_irrefl Nat.not_lt_zero Nat.le_refl Option.getD_some Option.getD_none BEq.rfl Bool.not_true Bool.not_false Bool.cond_true_left Bool.cond_false_right prS sndsS i64S nav_ins nav_ins0 nav_ins1 nav_ins2 nav_ins3 nav_ins4 nav_snd nav_snd0 nav_snd1 nav_snd2 isIns_insS insOf_insS isSnd_sndS sndOf_sndS isI_int isI_nat iOf
section
namespace Go.Proofs.Ytjliakjbdcplcaa.Vm
open Go.RowKit
set_option linter.unusedVariables false
set_option linter.unusedSimpArgs false
set_option maxRecDepth 100000
set_option maxHeartbeats 4000000
def cM18 : FuncId → Option Spec := look2 [(50, sCl64)]
theorem cM18_ok : ∀ f S, cM18 f = some S → CallOk Try.prog f S := allOk_spec ⟨sCl64_ok, trivial⟩
def nilS (D : List Snd) (b : Nat) : SV := SV.ite D.isEmpty (.sl 0 0 [] 0 0 0 (some 0)) (.sl b b [] 3 0 D.length none)
theorem nilS_t {D : List Snd} {b : Nat} (h : D.isEmpty = true) : nilS D b = .sl 0 0 [] 0 0 0 (some 0) := by unfold nilS; rw [h]; rfl
theorem nilS_f {D : List Snd} {b : Nat} (h : D.isEmpty = false) : nilS D b = .sl b b [] 3 0 D.length none := by unfold nilS; rw [h]; rfl
def mSnd (n : Nat) : List Snd := (List.range n).map fun i : Nat => ⟨(i : Int), (i : Int), 1⟩
theorem mSnd_len (n : Nat) : (mSnd n).length = n := by simp [mSnd]
theorem mSnd_succ (n : Nat) : mSnd (n + 1) = mSnd n ++ [⟨n, n, 1⟩] := by simp [mSnd, List.range_succ]
theorem ls_take (cs : List Int) (k : Nat) (hk : k ≤ cs.length) : ls iOf k (i64S cs) = cs.take k := by
  apply List.ext_getElem
  · rw [ls_length, List.length_take, Nat.min_eq_left hk]
  · intro i h1 h2
    rw [ls_length] at h1
    have := ls_getD (g := iOf) (f := i64S cs) (d := 0) h1
    rw [List.getD_eq_getElem?_getD, List.getElem?_eq_getElem (by rw [ls_length]; exact h1)] at this
    simp only [Option.getD_some] at this
    rw [this]
    show cs.getD i 0 = _
    rw [List.getD_eq_getElem?_getD, List.getElem?_eq_getElem (by omega), List.getElem_take]
    rfl
theorem made18_lit (a d s : Int) (rg : Nat → Int) (cs : List Int) (P : List Ins) (hP : P.length ≤ 1000000) (p p2 : Nat) (hcp : cs.length ≤ p) (ha : 0 ≤ a ∧ a ≤ 255) (hd : 0 ≤ d ∧ d ≤ 4294967295) (hs : 0 ≤ s ∧ s ≤ 255) : LitOk Try.prog 40 [.agg [.int .u8 a, .arr 8 1 (fun q => .int .i64 (rg q)), .sl 1 2 [] 1 0 cs.length (some p), .int .u32 d, .int .u8 s], .sl 3 4 [] 5 0 P.length (some p2)] [.gone, .gone, .ro (.arr cs.length 1 (i64S cs)), .gone, .ro (.arr P.length 5 (prS P))]
    (.agg [.int .i64 (a.tmod ((max P.length 1 : Nat) : Int)), .bool false, .arr 8 1 (fun q => .int .i64 (rg q)), .sl 5 5 [] 1 0 (cs.take 12).length none, .int .i64 d, nilS (mSnd (s.tmod 21).toNat) 6]) [.gone, .gone, .gone, .gone, .gone, .own 2 (.arr (cs.take 12).length 1 (i64S (cs.take 12))) false, .own 64 (.arr (mSnd (s.tmod 21).toNat).length 3 (sndsS (mSnd (s.tmod 21).toNat))) false] := by
  have hk0 := Int.tmod_nonneg 21 hs.1
  have hk1 := Int.tmod_lt_of_pos s (show (0 : Int) < 21 by decide)
  have hm1 : (cs.take 12).length = min cs.length 12 := by rw [List.length_take, Nat.min_comm]
  have hm2 := ls_take cs (min cs.length 12) (Nat.min_le_left _ _)
  have hm3 : cs.take (min cs.length 12) = cs.take 12 := by
    rcases Nat.le_total cs.length 12 with h | h
    · exact Vm.b107
    · rw [Nat.min_eq_right h]
  rw [hm3] at hm2
  have hm2' : ls iOf (min cs.length 12) (fun q => .int .i64 (cs.getD q 0)) = cs.take 12 := hm2
  refine litOkM (fn := Try.f40) 5 45 0 rfl rfl rfl rfl rfl (by simp only [StableL, Stable, hp, i64S, prS, insS, sndsS, sndS, stS, evS, macS, HB.stable]; simp [HB.born]) rfl fun w0 M E hro => ?_
  repeat' (first | refine Ctl.h ?_ | ((with_reducible intro hif); first | (focus (cases hif; done)) | (simp only [JH] at hif; try (exfalso; omega)) | (try (exfalso; omega))) | ((first | ((with_reducible apply J22 cM18_ok tab_ok); (· rfl)) | ((with_reducible apply J23 fol cM18_ok tab_ok); (· rfl)) | with_reducible apply J24); (· (simp only [push_cast, ↓JP, Nat.reduceAdd, Nat.reduceEqDiff, Nat.reduceLT, Nat.reduceMul, Nat.reduceLeDiff, reduceCtorEq, reduceIte, ↓JK, JM, JE, cM18, sCl64, inR, inN, Nat.sub_zero, hm2, hm2']; rfl)); (try kernel_rfl); (try exact Vm.b22)) | fail)
  refine WF.empty 64 3 (sndsS []) (fun _ q => sndsS_stable q) ?_
  refine WF.loopAt (fun (j : Nat) => j ≤ (s.tmod 21).toNat) (fun (j : Nat) => [(2, .ptr 5 []), (4, .ptr 6 []), (5, .ptr 9 []), (31, .int .i64 (s.tmod 21)), (32, .nat .i64 j)]) (fun (j : Nat) => [.gone, .gone, .ro (.arr cs.length 1 (i64S cs)), .gone, .ro (.arr P.length 5 (prS P)), .gone, .own 58 (.agg [.nat .i64 0, .bool false, .arr 8 1 (fun x => .nat .i64 0), .sl 0 0 [] 0 0 0 (some 0), .nat .i64 0, .sl 0 0 [] 0 0 0 (some 0)]) true, .gone, .own 2 (.arr (min cs.length 12) 1 (i64S (cs.take 12))) false, .own 58 (.agg [.int .i64 (a.tmod ((max P.length 1 : Nat) : Int)), .bool false, .arr 8 1 (fun q => .int .i64 (rg q)), .sl 8 8 [] 1 0 (min cs.length 12) none, .int .i64 d, nilS (mSnd j) 10]) true, .own 64 (.arr (mSnd j).length 3 (sndsS (mSnd j))) false]) (fun (j : Nat) => (s.tmod 21).toNat - j) 0 (Nat.zero_le _) ?_ ?_ rfl ?_ ?_ rfl ?_
  · exact Vm.b11
  · exact Vm.b8
  · exact Vm.b108
  · exact Vm.b108
  intro j hj
  by_cases hlt : j < (s.tmod 21).toNat
  · have hlt2 : (j : Int) < s.tmod 21 := by omega
    have hne : (mSnd (j + 1)).isEmpty = false := by rw [mSnd_succ]; cases mSnd j <;> rfl
    have hY : ∀ σ, Less (.own 64 (.arr ((mSnd j).length + 1) 3 fun q => SV.ite (decide (q < (mSnd j).length)) (sndS ((mSnd j).getD q ⟨0, 0, 0⟩)) ([SV.agg [.nat .i64 j, .nat .i64 j, .nat .i64 1]].getD (q - (mSnd j).length) (.agg [.nat .i64 0, .nat .i64 0, .nat .i64 0]))) false) ((HB.own 64 (.arr (mSnd (j + 1)).length 3 (sndsS (mSnd (j + 1)))) false).ren σ) := fun σ => by
      rw [mSnd_succ]
      refine less_snd (mSnd j) ⟨j, j, 1⟩ rfl fun q hq β => ?_
      rw [ite_eq]
      by_cases h : q < (mSnd j).length
      · simp only [h, decide_true, cond_true, List.getD_eq_getElem?_getD, List.getElem?_append_left h]
        rw [isSnd_cl (isSnd_sndS _), sndOf_sndS]
      · obtain rfl : q = (mSnd j).length := by omega
        simp only [Nat.lt_irrefl, decide_false, cond_false, Nat.sub_self, List.getD_eq_getElem?_getD, List.getElem?_append_right (Nat.le_refl _), List.getElem?_cons_zero, Option.getD_some]
        rfl
    by_cases h0 : j = 0
    · subst h0
      rw [show nilS (mSnd 0) 10 = .sl 0 0 [] 0 0 0 (some 0) from rfl]
      have hY0 : ∀ σ, Less (.own 64 (.arr (0 + 1) 3 fun q => [SV.agg [.nat .i64 (0 : Nat), .nat .i64 (0 : Nat), .nat .i64 1]].getD q (.agg [.nat .i64 0, .nat .i64 0, .nat .i64 0])) false) ((HB.own 64 (.arr (mSnd (0 + 1)).length 3 (sndsS (mSnd (0 + 1)))) false).ren σ) := fun σ => by
        rw [mSnd_succ]
        refine less_snd (mSnd 0) ⟨0, 0, 1⟩ rfl fun q hq β => ?_
        obtain rfl : q = 0 := by simp [mSnd] at hq; omega
        rfl
      repeat' (first | refine Ctl.h ?_ | ((with_reducible intro hif); first | (focus (cases hif; done)) | (simp only [JH] at hif; try (exfalso; omega)) | (try (exfalso; omega))) | ((first | ((with_reducible apply J22 cM18_ok tab_ok); (· rfl)) | ((with_reducible apply J23 fol cM18_ok tab_ok); (· rfl)) | with_reducible apply J24); (· exact Vm.b115); (try kernel_rfl); (try exact Vm.b22)) | fail)
      refine At.nextPick [0, 1, 2, 3, 4, 5, 6, 7, 8, 9, 12] 1 ?_ rfl rfl rfl ?_ rfl ?_ ?_ ?_ rfl
      · exact ⟨hlt, by omega⟩
      · exact Vm.b109
      · exact Vm.b108
      · exact Vm.b68
      · exact Vm.b108
    · have hnj : (mSnd j).isEmpty = false := by
        obtain ⟨k, rfl⟩ : ∃ k, j = k + 1 := ⟨j - 1, by omega⟩
        rw [mSnd_succ]; cases mSnd k <;> rfl
      rw [nilS_f hnj]
      have hln : (mSnd j).length ≤ 21 := by rw [mSnd_len]; omega
      repeat' (first | refine Ctl.h ?_ | ((with_reducible intro hif); first | (focus (cases hif; done)) | (simp only [JH] at hif; try (exfalso; omega)) | (try (exfalso; omega))) | ((first | ((with_reducible apply J22 cM18_ok tab_ok); (· rfl)) | ((with_reducible apply J23 fol cM18_ok tab_ok); (· rfl)) | with_reducible apply J24); (· exact Vm.b115); (try kernel_rfl); (try exact Vm.b22)) | fail)
      refine At.nextPick [0, 1, 2, 3, 4, 5, 6, 7, 8, 9, 12] (j + 1) ?_ rfl rfl rfl ?_ rfl ?_ ?_ ?_ rfl
      · exact ⟨hlt, by omega⟩
      · exact Vm.b109
      · exact Vm.b108
      · exact Vm.b68
      · exact Vm.b108
  · obtain rfl : j = (s.tmod 21).toNat := by omega
    have hlt2 : ¬ ((s.tmod 21).toNat : Int) < s.tmod 21 := by omega
    cases hnj : (mSnd (s.tmod 21).toNat).isEmpty
    · rw [nilS_f hnj, nilS_f hnj]
      repeat' (first | refine Ctl.h ?_ | ((with_reducible intro hif); first | (focus (cases hif; done)) | (simp only [JH] at hif; try (exfalso; omega)) | (try (exfalso; omega))) | ((first | ((with_reducible apply J22 cM18_ok tab_ok); (· rfl)) | ((with_reducible apply J23 fol cM18_ok tab_ok); (· rfl)) | with_reducible apply J24); (· exact Vm.b115); (try kernel_rfl); (try exact Vm.b22)) | fail)
      apply At.endsPick [0, 1, 2, 3, 4, 8, 10] tab_ok (fn := Try.f40) (rs := [.cell 4 58]) Anc.refl hro (Nat.le_of_ble_eq_true rfl) rfl
      · exact Vm.b18
      · exact Vm.b24
      · rfl
      · rfl
      · rfl
      · exact Vm.b109
      · rfl
      · exact Vm.b108
      · exact Vm.b10
      · exact fun β => by rw [hm1]; rfl
      · exact Vm.b108
    · rw [nilS_t hnj, nilS_t hnj]
      repeat' (first | refine Ctl.h ?_ | ((with_reducible intro hif); first | (focus (cases hif; done)) | (simp only [JH] at hif; try (exfalso; omega)) | (try (exfalso; omega))) | ((first | ((with_reducible apply J22 cM18_ok tab_ok); (· rfl)) | ((with_reducible apply J23 fol cM18_ok tab_ok); (· rfl)) | with_reducible apply J24); (· exact Vm.b115); (try kernel_rfl); (try exact Vm.b22)) | fail)
      apply At.endsPick [0, 1, 2, 3, 4, 8, 10] tab_ok (fn := Try.f40) (rs := [.cell 4 58]) Anc.refl hro (Nat.le_of_ble_eq_true rfl) rfl
      · exact Vm.b18
      · exact Vm.b24
      · rfl
      · rfl
      · rfl
      · exact Vm.b109
      · rfl
      · exact Vm.b108
      · exact Vm.b10
      · exact fun β => by rw [hm1]; rfl
      · exact Vm.b108
theorem made18N (a d s : Int) (rg : Nat → Int) (cs : List Int) (P : List Ins) (hP : P.length ≤ 1000000) (p p2 : Nat) (hcp : cs.length ≤ p) (ha : 0 ≤ a ∧ a ≤ 255) (hd : 0 ≤ d ∧ d ≤ 4294967295) (hs : 0 ≤ s ∧ s ≤ 255) (hm : (mSnd (s.tmod 21).toNat).isEmpty = true) : LitOk Try.prog 40 [.agg [.int .u8 a, .arr 8 1 (fun q => .int .i64 (rg q)), .sl 1 2 [] 1 0 cs.length (some p), .int .u32 d, .int .u8 s], .sl 3 4 [] 5 0 P.length (some p2)] [.gone, .gone, .ro (.arr cs.length 1 (i64S cs)), .gone, .ro (.arr P.length 5 (prS P))]
    (.agg [.int .i64 (a.tmod ((max P.length 1 : Nat) : Int)), .bool false, .arr 8 1 (fun q => .int .i64 (rg q)), .sl 5 5 [] 1 0 (cs.take 12).length none, .int .i64 d, .sl 0 0 [] 0 0 0 (some 0)]) [.gone, .gone, .gone, .gone, .gone, .own 2 (.arr (cs.take 12).length 1 (i64S (cs.take 12))) false] := by
  have H := made18_lit a d s rg cs P hP p p2 hcp ha hd hs
  rw [nilS_t hm] at H
  intro w0 M β w R
  refine (H w0 M β w R).mono fun e w' ⟨β', h1, h2, h3, h4⟩ => ⟨β', h1, h2.less (fun i => ?_) rfl (fun i => ?_), ?_, h4⟩
  · rcases i with _ | _ | _ | _ | _ | _ | i
    · exact .same _
    · exact .same _
    · exact .same _
    · exact .same _
    · exact .same _
    · exact .same _
    · exact .dead _
  · rcases i with _ | _ | _ | _ | _ | _ | i
    · trivial
    · trivial
    · trivial
    · trivial
    · trivial
    · exact fun q => i64S_stable q
    · trivial
  · simp [Stable, StableL, hp, HB.born]
theorem made18S (a d s : Int) (rg : Nat → Int) (cs : List Int) (P : List Ins) (hP : P.length ≤ 1000000) (p p2 : Nat) (hcp : cs.length ≤ p) (ha : 0 ≤ a ∧ a ≤ 255) (hd : 0 ≤ d ∧ d ≤ 4294967295) (hs : 0 ≤ s ∧ s ≤ 255) (hm : (mSnd (s.tmod 21).toNat).isEmpty = false) : LitOk Try.prog 40 [.agg [.int .u8 a, .arr 8 1 (fun q => .int .i64 (rg q)), .sl 1 2 [] 1 0 cs.length (some p), .int .u32 d, .int .u8 s], .sl 3 4 [] 5 0 P.length (some p2)] [.gone, .gone, .ro (.arr cs.length 1 (i64S cs)), .gone, .ro (.arr P.length 5 (prS P))]
    (.agg [.int .i64 (a.tmod ((max P.length 1 : Nat) : Int)), .bool false, .arr 8 1 (fun q => .int .i64 (rg q)), .sl 5 5 [] 1 0 (cs.take 12).length none, .int .i64 d, .sl 6 6 [] 3 0 (mSnd (s.tmod 21).toNat).length none]) [.gone, .gone, .gone, .gone, .gone, .own 2 (.arr (cs.take 12).length 1 (i64S (cs.take 12))) false, .own 64 (.arr (mSnd (s.tmod 21).toNat).length 3 (sndsS (mSnd (s.tmod 21).toNat))) false] := by
  have H := made18_lit a d s rg cs P hP p p2 hcp ha hd hs
  rwa [nilS_f hm] at H
def sMd18N : Spec := fun args h m => match args with
  | [.agg [v1, .arr 8 1 v2, v3, v4, v5], v6] => match srcV h 1 (.tup []) v3, srcV h 5 (.tup []) v6 with
    | some (c3, n3, f3, r3), some (c6, n6, f6, r6) => bif isI .u8 v1 && isI .u32 v4 && isI .u8 v5 then some (c3 ∧ c6 ∧ (∀ q, q < n3 → isI .i64 (f3 q) = true) ∧ (∀ q, q < n6 → isIns (f6 q) = true) ∧ (∀ q, q < 8 → isI .i64 (v2 q) = true) ∧ (0 ≤ (iOf v1) ∧ (iOf v1) ≤ 255) ∧ (0 ≤ (iOf v4) ∧ (iOf v4) ≤ 4294967295) ∧ (0 ≤ (iOf v5) ∧ (iOf v5) ≤ 255) ∧ (n6 ≤ 1000000) ∧ ((mSnd ((iOf v5).tmod 21).toNat).isEmpty = true), .agg [.int .i64 ((iOf v1).tmod ((max (ls insOf n6 f6).length 1 : Nat) : Int)), .bool false, .arr 8 1 (fun q => .int .i64 (iOf (v2 q))), .sl m m [] 1 0 ((ls iOf n3 f3).take 12).length none, .int .i64 (iOf v4), .sl 0 0 [] 0 0 0 (some 0)], r3 ++ r6, [(m, .own 2 (.arr ((ls iOf n3 f3).take 12).length 1 (i64S ((ls iOf n3 f3).take 12))) false)]) else none
    | _, _ => none
  | _ => none
theorem sMd18N_ok : CallOk Try.prog 40 sMd18N := by
  refine ⟨named_spec (by kernel_rfl), fun args h m c v rd wr hs hm hc w0 M β h' w R hrd hwr hst => ?_⟩
  unfold sMd18N at hs
  split at hs
  · rename_i v1 v2 v3 v4 v5 v6
    split at hs
    · rename_i c3 n3 f3 r3 c6 n6 f6 r6 a3 a6
      obtain ⟨hb, hs⟩ := bif_some hs
      simp only [Option.some.injEq, Prod.mk.injEq] at hs
      obtain ⟨rfl, rfl, rfl, rfl⟩ := hs
      simp only [Bool.and_eq_true] at hb
      obtain ⟨⟨b1, b4⟩, b5⟩ := hb
      obtain ⟨k3, k6, g3, g6, g2, y1, y2, y3, y4, y5⟩ := hc
      obtain ⟨A3, p3, d3, e3, t3⟩ := reads_src R a3 k3 (fun i hi => hrd i (List.mem_append_left _ hi)) (by omega)
      obtain ⟨A6, p6, d6, e6, t6⟩ := reads_src R a6 k6 (fun i hi => hrd i (List.mem_append_right _ hi)) (by omega)
      refine callRo (views := [⟨1, (ls iOf n3 f3).length, i64S (ls iOf n3 f3), A3, p3⟩, ⟨5, (ls insOf n6 f6).length, prS (ls insOf n6 f6), A6, p6⟩]) (made18N (iOf v1) (iOf v4) (iOf v5) (fun q => iOf (v2 q)) (ls iOf n3 f3) (ls insOf n6 f6) (by rw [ls_length]; exact y4) p3 p6 (by rw [ls_length]; exact e3) y1 y2 y3 y5) ?_ R hm hwr ?_ ?_ ?_
      · intro x hx
        simp only [List.mem_cons, List.not_mem_nil, or_false] at hx
        rcases hx with rfl | rfl
        · exact viewI64 t3 e3 g3
        · exact viewIns t6 e6 g6
      · intro β1 hv
        simp only [Vd, ls_length, and_true] at hv
        obtain ⟨z3, z6⟩ := hv
        simp only [denL, aggDen, intDen, natDen, boolDen, ls_length, z3, z6, d3, d6, isI_den b1, isI_den b4, isI_den b5, ← r8Den (β := β) (β1 := β1) g2]
      · exact Vm.b108
      · exact Vm.b108
    · cases hs
  · cases hs
def sMd18S : Spec := fun args h m => match args with
  | [.agg [v1, .arr 8 1 v2, v3, v4, v5], v6] => match srcV h 1 (.tup []) v3, srcV h 5 (.tup []) v6 with
    | some (c3, n3, f3, r3), some (c6, n6, f6, r6) => bif isI .u8 v1 && isI .u32 v4 && isI .u8 v5 then some (c3 ∧ c6 ∧ (∀ q, q < n3 → isI .i64 (f3 q) = true) ∧ (∀ q, q < n6 → isIns (f6 q) = true) ∧ (∀ q, q < 8 → isI .i64 (v2 q) = true) ∧ (0 ≤ (iOf v1) ∧ (iOf v1) ≤ 255) ∧ (0 ≤ (iOf v4) ∧ (iOf v4) ≤ 4294967295) ∧ (0 ≤ (iOf v5) ∧ (iOf v5) ≤ 255) ∧ (n6 ≤ 1000000) ∧ ((mSnd ((iOf v5).tmod 21).toNat).isEmpty = false), .agg [.int .i64 ((iOf v1).tmod ((max (ls insOf n6 f6).length 1 : Nat) : Int)), .bool false, .arr 8 1 (fun q => .int .i64 (iOf (v2 q))), .sl m m [] 1 0 ((ls iOf n3 f3).take 12).length none, .int .i64 (iOf v4), .sl (m + 1) (m + 1) [] 3 0 (mSnd ((iOf v5).tmod 21).toNat).length none], r3 ++ r6, [(m, .own 2 (.arr ((ls iOf n3 f3).take 12).length 1 (i64S ((ls iOf n3 f3).take 12))) false), (m + 1, .own 64 (.arr (mSnd ((iOf v5).tmod 21).toNat).length 3 (sndsS (mSnd ((iOf v5).tmod 21).toNat))) false)]) else none
    | _, _ => none
  | _ => none
theorem sMd18S_ok : CallOk Try.prog 40 sMd18S := by
  refine ⟨named_spec (by kernel_rfl), fun args h m c v rd wr hs hm hc w0 M β h' w R hrd hwr hst => ?_⟩
  unfold sMd18S at hs
  split at hs
  · rename_i v1 v2 v3 v4 v5 v6
    split at hs
    · rename_i c3 n3 f3 r3 c6 n6 f6 r6 a3 a6
      obtain ⟨hb, hs⟩ := bif_some hs
      simp only [Option.some.injEq, Prod.mk.injEq] at hs
      obtain ⟨rfl, rfl, rfl, rfl⟩ := hs
      simp only [Bool.and_eq_true] at hb
      obtain ⟨⟨b1, b4⟩, b5⟩ := hb
      obtain ⟨k3, k6, g3, g6, g2, y1, y2, y3, y4, y5⟩ := hc
      obtain ⟨A3, p3, d3, e3, t3⟩ := reads_src R a3 k3 (fun i hi => hrd i (List.mem_append_left _ hi)) (by omega)
      obtain ⟨A6, p6, d6, e6, t6⟩ := reads_src R a6 k6 (fun i hi => hrd i (List.mem_append_right _ hi)) (by omega)
      refine callRo (views := [⟨1, (ls iOf n3 f3).length, i64S (ls iOf n3 f3), A3, p3⟩, ⟨5, (ls insOf n6 f6).length, prS (ls insOf n6 f6), A6, p6⟩]) (made18S (iOf v1) (iOf v4) (iOf v5) (fun q => iOf (v2 q)) (ls iOf n3 f3) (ls insOf n6 f6) (by rw [ls_length]; exact y4) p3 p6 (by rw [ls_length]; exact e3) y1 y2 y3 y5) ?_ R hm hwr ?_ ?_ ?_
      · intro x hx
        simp only [List.mem_cons, List.not_mem_nil, or_false] at hx
        rcases hx with rfl | rfl
        · exact viewI64 t3 e3 g3
        · exact viewIns t6 e6 g6
      · intro β1 hv
        simp only [Vd, ls_length, and_true] at hv
        obtain ⟨z3, z6⟩ := hv
        simp only [denL, aggDen, intDen, natDen, boolDen, ls_length, z3, z6, d3, d6, isI_den b1, isI_den b4, isI_den b5, ← r8Den (β := β) (β1 := β1) g2]
      · exact Vm.b108
      · exact Vm.b108
    · cases hs
  · cases hs
end Go.Proofs.Ytjliakjbdcplcaa.Vm
end

section
namespace Go.Proofs.Ytjliakjbdcplcaa.Vm
open Go.RowKit
set_option linter.unusedVariables false
set_option linter.unusedSimpArgs false
set_option maxRecDepth 100000
set_option maxHeartbeats 4000000
def capB : SV → Prop
  | .sl _ _ _ _ _ n (some cp) => max n cp ≤ 9223372036854775807
  | _ => False
theorem capB_le {v : SV} {β : Env} {A : Option Addr} {n p : Nat} (h : capB v) (d : v.den β = .slice A n p) : p ≤ 9223372036854775807 := by
  cases v with
  | sl z i pa k s n' c => cases c with
    | none => exact h.elim
    | some cp =>
      have h' : max n' cp ≤ 9223372036854775807 := h
      simp only [SV.den, Option.getD_some] at d
      injection d with _ _ h3
      omega
  | _ => exact h.elim
end Go.Proofs.Ytjliakjbdcplcaa.Vm
end

section
namespace Go.Proofs.Ytjliakjbdcplcaa.Vm
open Go.RowKit
set_option linter.unusedVariables false
set_option linter.unusedSimpArgs false
set_option maxRecDepth 100000
set_option maxHeartbeats 4000000
theorem hs_lit (r : Rul) (n p : Nat) : LitOk Try.prog 58 [.ptr 1 [], .agg [.int .u64 r.seed, .int .i64 r.ahead, .int .i64 r.fuel], .sl 2 3 [] 5 0 n (some p)] [.gone, .gone, .gone, .gone] (.fn 85 [.ptr 6 [], .ptr 4 [], .ptr 5 []])
    [.gone, .gone, .gone, .gone, .own 136 (.ptr 1 []) true, .own 80 (.agg [.int .u64 r.seed, .int .i64 r.ahead, .int .i64 r.fuel]) true, .own 83 (.sl 2 3 [] 5 0 n (some p)) true] := by
  refine litOkM (fn := Try.f58) 4 8 0 rfl rfl rfl rfl rfl (by simp only [StableL, Stable, hp, pcS, dnB, DnI.at_, dnS, dnR, i64S, prS, insS, sndsS, sndS, evtsS, evtS, prO, i64O, inO, evO_, cB, sB, HB.stable]; simp [HB.born]) rfl fun w0 M E hro => ?_
  repeat' (first | refine Ctl.h ?_ | ((with_reducible intro hif); first | (focus (cases hif; done)) | (simp only [JH] at hif; try (exfalso; omega)) | (try (exfalso; omega))) | ((first | ((with_reducible apply J22 c1_ok tab_ok); (· rfl)) | ((with_reducible apply J23 fol c1_ok tab_ok); (· rfl)) | with_reducible apply J24); (· exact Vm.b34); (try kernel_rfl); (try exact Vm.b22)) | fail)
  apply At.endsPick [0, 1, 2, 3, 4, 5, 6] tab_ok (fn := Try.f58) (rs := [.tmp 6]) Anc.refl hro (Nat.le_of_ble_eq_true rfl) rfl
  · exact Vm.b18
  · exact Vm.b24
  · rfl
  · rfl
  · rfl
  · exact Vm.b37
  · rfl
  · exact Vm.b102
  · exact Vm.b10
  · exact fun β => rfl
  · exact Vm.b102
def rHs : Spec := fun args h m => match args with
  | [.ptr d [], .agg [.int .u64 a, .int .i64 b, .int .i64 k], .sl z i [] 5 0 n (some p)] => bif (h d).born && ((h z).born && (h i).born) && nodupN [0, d, z, i] then some (True, .fn 85 [.ptr (m + 2) [], .ptr m [], .ptr (m + 1) []], [d, z, i],
      [(m, .own 136 (.ptr d []) true), (m + 1, .own 80 (.agg [.int .u64 a, .int .i64 b, .int .i64 k]) true), (m + 2, .own 83 (.sl z i [] 5 0 n (some p)) true)]) else none
  | _ => none
theorem rHs_ok : CallOk Try.prog 58 rHs := by
  refine ⟨named_spec (by kernel_rfl), fun args h m c v rd wr hs hm hc w0 M β h' w R hrd hwr hst => ?_⟩
  unfold rHs at hs
  split at hs
  · rename_i d a b k z i n p
    obtain ⟨hb, hs⟩ := bif_some hs
    simp only [Option.some.injEq, Prod.mk.injEq] at hs
    obtain ⟨rfl, rfl, rfl, rfl⟩ := hs
    simp only [Bool.and_eq_true] at hb
    obtain ⟨⟨b1, b2, b3⟩, hnd⟩ := hb
    have e1 : rhoL [0, d, z, i] m 4 = m := by simp [rhoL]
    have e2 : rhoL [0, d, z, i] m 5 = m + 1 := by simp [rhoL]
    have e3 : rhoL [0, d, z, i] m 6 = m + 2 := by simp [rhoL]
    have e4 : rhoL [0, d, z, i] m 1 = d := by simp [rhoL]
    have e5 : rhoL [0, d, z, i] m 2 = z := by simp [rhoL]
    have e6 : rhoL [0, d, z, i] m 3 = i := by simp [rhoL]
    exact bun_ok (h := h) (m := m) [0, d, z, i] (hs_lit ⟨a, b, k⟩ n p) R rfl (by simp) rfl rfl hnd
      ⟨Fit.gone (by rw [R.nil0]; rfl), Fit.gone (by rw [hrd d (by simp)]; exact b1), Fit.gone (by rw [hrd z (by simp)]; exact b2), Fit.gone (by rw [hrd i (by simp)]; exact b3), trivial⟩ hm
      (fun p' hp => by
        simp only [newB, List.drop, List.length_cons, List.length_nil, List.mem_cons, List.not_mem_nil, or_false] at hp
        rcases hp with rfl | rfl | rfl
        · exact hwr (m, .own 136 (.ptr d []) true) (by simp)
        · exact hwr (m + 1, .own 80 (.agg [.int .u64 a, .int .i64 b, .int .i64 k]) true) (by simp)
        · exact hwr (m + 2, .own 83 (.sl z i [] 5 0 n (some p)) true) (by simp)) (by simp) rfl
      ⟨trivial, trivial, trivial, trivial, trivial⟩ ⟨rfl, by simp [Stable, StableL], ⟨rfl, rfl⟩, trivial⟩ ⟨trivial, trivial, trivial, trivial, by simp [HB.stable, Stable, hp, mrgL, HB.born, HB.mine], by simp [HB.stable, Stable, StableL], by simp [HB.stable, Stable, hp, mrgL, HB.born, HB.mine], trivial⟩ (by simp [Stable, StableL, hp, mrgL, HB.born, HB.mine]) rfl
      (by simp only [SV.ren, renL, e1, e2, e3]) (by
        show [(m, (HB.own 136 (.ptr 1 []) true).ren _), (m + 1, (HB.own 80 (.agg [.int .u64 a, .int .i64 b, .int .i64 k]) true).ren _), (m + 2, (HB.own 83 (.sl 2 3 [] 5 0 n (some p)) true).ren _)] = _
        simp only [HB.ren, SV.ren, renL, e4, e5, e6])
  · cases hs
theorem badAt_zero {p : Prc} {l : List Evt} {i : Nat} (h : badAt p l i = 0) : takesB p (l.getD i ⟨0, 0, 0, 0, 0⟩) = true ∧ (0 < i → ¬ 0 ≤ (kcmp (l.getD (i - 1) ⟨0, 0, 0, 0, 0⟩).time (l.getD (i - 1) ⟨0, 0, 0, 0, 0⟩).source (l.getD (i - 1) ⟨0, 0, 0, 0, 0⟩).seq (l.getD i ⟨0, 0, 0, 0, 0⟩).time (l.getD i ⟨0, 0, 0, 0, 0⟩).source (l.getD i ⟨0, 0, 0, 0, 0⟩).seq).1) := by
  have ht := badAt_takes h
  refine ⟨ht, fun h0 hk => ?_⟩
  unfold badAt at h
  rw [if_neg (by rw [ht]; exact Bool.noConfusion), if_pos ⟨h0, hk⟩] at h
  cases h
theorem badAt_not {p : Prc} {l : List Evt} {i : Nat} (h : badAt p l i ≠ 0) : (takesB p (l.getD i ⟨0, 0, 0, 0, 0⟩) = false ∧ badAt p l i = 282) ∨ (takesB p (l.getD i ⟨0, 0, 0, 0, 0⟩) = true ∧ badAt p l i = 283 ∧ 0 < i ∧ 0 ≤ (kcmp (l.getD (i - 1) ⟨0, 0, 0, 0, 0⟩).time (l.getD (i - 1) ⟨0, 0, 0, 0, 0⟩).source (l.getD (i - 1) ⟨0, 0, 0, 0, 0⟩).seq (l.getD i ⟨0, 0, 0, 0, 0⟩).time (l.getD i ⟨0, 0, 0, 0, 0⟩).source (l.getD i ⟨0, 0, 0, 0, 0⟩).seq).1) := by
  unfold badAt at h ⊢
  cases ht : takesB p (l.getD i ⟨0, 0, 0, 0, 0⟩)
  · exact .inl ⟨rfl, if_pos rfl⟩
  · rw [ht] at h
    rw [if_neg Bool.noConfusion] at h ⊢
    by_cases hk : 0 < i ∧ 0 ≤ (kcE (l.getD (i - 1) ⟨0, 0, 0, 0, 0⟩) (l.getD i ⟨0, 0, 0, 0, 0⟩)).1
    · exact .inr ⟨rfl, if_pos hk, hk.1, hk.2⟩
    · rw [if_neg hk] at h; exact absurd rfl h
theorem dnn_eta (D : Dn) : Dn.mk D.p D.sent D.used = D := rfl
structure KD where
  k : Nat
  D : Dn
def cA0 : FuncId → Option Spec := look2 [(35, sPCheck), (53, sTakes), (54, sPCopy), (57, sKCmp), (58, rHs)]
theorem cA0_ok : ∀ f S, cA0 f = some S → CallOk Try.prog f S := allOk_spec ⟨sPCheck_ok, sTakes_ok, sPCopy_ok, sKCmp_ok, rHs_ok, trivial⟩
def cAB : FuncId → Option Spec := look2 [(35, sPCheck), (53, sTakes), (54, sPCopy), (57, sKCmp), (58, rHs), (55, rHaB)]
theorem cAB_ok : ∀ f S, cAB f = some S → CallOk Try.prog f S := allOk_spec ⟨sPCheck_ok, sTakes_ok, sPCopy_ok, sKCmp_ok, rHs_ok, rHaB_ok, trivial⟩
def cAG : FuncId → Option Spec := look2 [(35, sPCheck), (53, sTakes), (54, sPCopy), (57, sKCmp), (58, rHs), (55, rHaG)]
theorem cAG_ok : ∀ f S, cAG f = some S → CallOk Try.prog f S := allOk_spec ⟨sPCheck_ok, sTakes_ok, sPCopy_ok, sKCmp_ok, rHs_ok, rHaG_ok, trivial⟩
theorem nav_evt0 (e : Evt) (pa : List Stp) : nav (evtS e) (.f 0 0 :: pa) = nav (.agg [.int .i64 e.time, .int .i64 e.source, .int .i64 e.seq]) pa := rfl
theorem nav_evt1 (e : Evt) (pa : List Stp) : nav (evtS e) (.f 1 3 :: pa) = nav (.int .i64 e.to_) pa := rfl
theorem nav_evt2 (e : Evt) (pa : List Stp) : nav (evtS e) (.f 2 4 :: pa) = nav (.int .i64 e.value) pa := rfl
theorem all_bad (r : Rul) (p : Prc) (l : List Evt) (p1 p2 p3 p4 : Nat) (hok : ∀ x ∈ p.P, x.ok) (hn : p.P.length ≤ 1000000) (hc : p.cells.length ≤ 1000000) (hpo : p.ports.length ≤ 1000000) (hll : l.length ≤ 200) (i : Nat) (hi : i < l.length) (hE0 : procE r p = 0) (hB : ∀ q, q < i → badAt p l q = 0) (hb : badAt p l i ≠ 0) : LitOk Try.prog 32 [.agg [.int .u64 r.seed, .int .i64 r.ahead, .int .i64 r.fuel], .agg [.int .i64 p.id, .sl 1 2 [] 5 0 p.P.length (some p1), .sl 3 4 [] 1 0 p.cells.length (some p2), .int .i64 p.draws, .int .i64 p.seq, .sl 5 6 [] 1 0 p.ports.length (some p3)], .sl 7 8 [] 5 0 l.length (some p4)]
    [.gone, .gone, .ro (.arr p.P.length 5 (prS p.P)), .gone, .ro (.arr p.cells.length 1 (i64S p.cells)), .gone, .ro (.arr p.ports.length 1 (i64S p.ports)), .gone, .ro (.arr l.length 5 (evtsS l))]
    (.tup [dn0, .nat .i64 i, .int .i64 (badAt p l i)]) [.gone] := by

  refine litOkM (fn := Try.f32) 9 80 0 rfl rfl rfl rfl rfl (by simp only [StableL, Stable, hp, pcS, dnB, DnI.at_, dnS, dnR, i64S, prS, insS, sndsS, sndS, evtsS, evtS, prO, i64O, inO, evO_, cB, sB, HB.stable]; simp [HB.born, evtS]) rfl fun w0 M E hro => ?_
  repeat' (first | refine Ctl.h ?_ | ((with_reducible intro hif); first | (focus (cases hif; done)) | (simp only [JH] at hif; try (exfalso; omega)) | (try (exfalso; omega))) | ((first | ((with_reducible apply J22 cA0_ok tab_ok); (· rfl)) | ((with_reducible apply J23 fol cA0_ok tab_ok); (· rfl)) | with_reducible apply J24); (· (simp only [push_cast, ↓JP, Nat.reduceAdd, Nat.reduceEqDiff, Nat.reduceLT, Nat.reduceMul, Nat.reduceLeDiff, reduceCtorEq, reduceIte, ↓JK, JE, prc_eta, cA0, sPCheck, sTakes, sPCopy, sKCmp, rHs, pcS, prO, i64O, inO, evm_ev, rHaB, rHaG, donP, dnI, isIns_insS, isI_int, isEvt_evtS, evtOf_evtS, ls_evtsS, ls_evtsS', nodupN, memN, inR, inN, ↓evtS_sz, ↓evtS_ag, ↓evtS_pl, nav_evt, nav_evt0, nav_evt1, nav_evt2, rul_eta, ls_zero, JB, dnS, dnR, dnB, evO_, dn0, evtsS, hE0]; rfl)); (try kernel_rfl); (try exact Vm.b116)) | fail)
  refine WF.loopAt (fun (j : Nat) => j ≤ i) (fun (j : Nat) => [(2, .sl 7 8 [] 5 0 l.length (some p4)), (3, .ptr 9 []), (4, .ptr 10 []), (6, .ptr 11 []), (26, .sl 7 8 [] 5 0 l.length (some p4)), (27, .nat .i64 l.length), (28, .nat .i64 j)]) (fun (j : Nat) => [.gone, .gone, .ro (.arr p.P.length 5 (prS p.P)), .gone, .ro (.arr p.cells.length 1 (i64S p.cells)), .gone, .ro (.arr p.ports.length 1 (i64S p.ports)), .gone, .ro (.arr l.length 5 (evtsS l)), .own 80 (.agg [.int .u64 r.seed, .int .i64 r.ahead, .int .i64 r.fuel]) true, .own 82 (.agg [.int .i64 p.id, .sl 1 2 [] 5 0 p.P.length (some p1), .sl 3 4 [] 1 0 p.cells.length (some p2), .int .i64 p.draws, .int .i64 p.seq, .sl 5 6 [] 1 0 p.ports.length (some p3)]) true, .own 87 dn0 true]) (fun (j : Nat) => i - j) 0 (Nat.zero_le _) ?_ ?_ rfl ?_ ?_ rfl ?_
  · exact Vm.b11
  · exact Vm.b8
  · exact Vm.b102
  · exact Vm.b102
  intro j hj
  by_cases hji : j < i
  · have hbj := hB j hji
    have hjl : j < l.length := by omega
    obtain ⟨hT, hK⟩ := badAt_zero hbj
    by_cases hj0 : 0 < j
    · have hK := hK hj0
      have hjm : ((j : Int) - 1).toNat = j - 1 := by omega
      repeat' (first | refine Ctl.h ?_ | ((with_reducible intro hif); first | (focus (cases hif; done)) | (simp only [JH] at hif; try (exfalso; omega)) | (try (exfalso; omega))) | ((first | ((with_reducible apply J22 cA0_ok tab_ok); (· rfl)) | ((with_reducible apply J23 fol cA0_ok tab_ok); (· rfl)) | with_reducible apply J24); (· (simp only [push_cast, ↓JP, Nat.reduceAdd, Nat.reduceEqDiff, Nat.reduceLT, Nat.reduceMul, Nat.reduceLeDiff, reduceCtorEq, reduceIte, ↓JK, JE, prc_eta, cA0, sPCheck, sTakes, sPCopy, sKCmp, rHs, pcS, prO, i64O, inO, evm_ev, rHaB, rHaG, donP, dnI, isIns_insS, isI_int, isEvt_evtS, evtOf_evtS, ls_evtsS, ls_evtsS', nodupN, memN, inR, inN, ↓evtS_sz, ↓evtS_ag, ↓evtS_pl, nav_evt, nav_evt0, nav_evt1, nav_evt2, rul_eta, ls_zero, JB, dnS, dnR, dnB, evO_, dn0, evtsS, hjl, hT, hj0, hjm, hK]; rfl)); (try kernel_rfl); (try exact Vm.b116)) | fail)
      refine At.next (j + 1) ?_ ?_ ?_ rfl ?_ ?_ rfl
      · omega
      · exact Vm.b11
      · exact Vm.b8
      · exact Vm.b102
      · exact Vm.b102
    · obtain rfl : j = 0 := by omega
      repeat' (first | refine Ctl.h ?_ | ((with_reducible intro hif); first | (focus (cases hif; done)) | (simp only [JH] at hif; try (exfalso; omega)) | (try (exfalso; omega))) | ((first | ((with_reducible apply J22 cA0_ok tab_ok); (· rfl)) | ((with_reducible apply J23 fol cA0_ok tab_ok); (· rfl)) | with_reducible apply J24); (· (simp only [push_cast, ↓JP, Nat.reduceAdd, Nat.reduceEqDiff, Nat.reduceLT, Nat.reduceMul, Nat.reduceLeDiff, reduceCtorEq, reduceIte, ↓JK, JE, prc_eta, cA0, sPCheck, sTakes, sPCopy, sKCmp, rHs, pcS, prO, i64O, inO, evm_ev, rHaB, rHaG, donP, dnI, isIns_insS, isI_int, isEvt_evtS, evtOf_evtS, ls_evtsS, ls_evtsS', nodupN, memN, inR, inN, ↓evtS_sz, ↓evtS_ag, ↓evtS_pl, nav_evt, nav_evt0, nav_evt1, nav_evt2, rul_eta, ls_zero, JB, dnS, dnR, dnB, evO_, dn0, evtsS, hjl, hT]; rfl)); (try kernel_rfl); (try exact Vm.b116)) | fail)
      refine At.next (0 + 1) ?_ ?_ ?_ rfl ?_ ?_ rfl
      · omega
      · exact Vm.b11
      · exact Vm.b8
      · exact Vm.b102
      · exact Vm.b102
  · obtain rfl : j = i := by omega
    rcases badAt_not hb with ⟨hT, hv⟩ | ⟨hT, hv, hj0, hK⟩
    · skip
      repeat' (first | refine Ctl.h ?_ | ((with_reducible intro hif); first | (focus (cases hif; done)) | (simp only [JH] at hif; try (exfalso; omega)) | (try (exfalso; omega))) | ((first | ((with_reducible apply J22 cA0_ok tab_ok); (· rfl)) | ((with_reducible apply J23 fol cA0_ok tab_ok); (· rfl)) | with_reducible apply J24); (· (simp only [push_cast, ↓JP, Nat.reduceAdd, Nat.reduceEqDiff, Nat.reduceLT, Nat.reduceMul, Nat.reduceLeDiff, reduceCtorEq, reduceIte, ↓JK, JE, prc_eta, cA0, sPCheck, sTakes, sPCopy, sKCmp, rHs, pcS, prO, i64O, inO, evm_ev, rHaB, rHaG, donP, dnI, isIns_insS, isI_int, isEvt_evtS, evtOf_evtS, ls_evtsS, ls_evtsS', nodupN, memN, inR, inN, ↓evtS_sz, ↓evtS_ag, ↓evtS_pl, nav_evt, nav_evt0, nav_evt1, nav_evt2, rul_eta, ls_zero, JB, dnS, dnR, dnB, evO_, dn0, evtsS, hi, hT]; rfl)); (try kernel_rfl); (try exact Vm.b116)) | fail)
      apply At.endsRet tab_ok (fn := Try.f32) (rs := [.cell 6 87, .tmp 7, .tmp 8]) Anc.refl hro (Nat.le_of_ble_eq_true rfl) rfl
      · exact Vm.b18
      · exact Vm.b7
      · exact Vm.b8
      · rfl
      · exact Vm.b102
      · exact Vm.b10
      · rw [hv]; exact fun β => rfl
      · exact Vm.b102
    · have hjm : ((j : Int) - 1).toNat = j - 1 := by omega
      repeat' (first | refine Ctl.h ?_ | ((with_reducible intro hif); first | (focus (cases hif; done)) | (simp only [JH] at hif; try (exfalso; omega)) | (try (exfalso; omega))) | ((first | ((with_reducible apply J22 cA0_ok tab_ok); (· rfl)) | ((with_reducible apply J23 fol cA0_ok tab_ok); (· rfl)) | with_reducible apply J24); (· (simp only [push_cast, ↓JP, Nat.reduceAdd, Nat.reduceEqDiff, Nat.reduceLT, Nat.reduceMul, Nat.reduceLeDiff, reduceCtorEq, reduceIte, ↓JK, JE, prc_eta, cA0, sPCheck, sTakes, sPCopy, sKCmp, rHs, pcS, prO, i64O, inO, evm_ev, rHaB, rHaG, donP, dnI, isIns_insS, isI_int, isEvt_evtS, evtOf_evtS, ls_evtsS, ls_evtsS', nodupN, memN, inR, inN, ↓evtS_sz, ↓evtS_ag, ↓evtS_pl, nav_evt, nav_evt0, nav_evt1, nav_evt2, rul_eta, ls_zero, JB, dnS, dnR, dnB, evO_, dn0, evtsS, hi, hT, hj0, hjm, hK]; rfl)); (try kernel_rfl); (try exact Vm.b116)) | fail)
      apply At.endsRet tab_ok (fn := Try.f32) (rs := [.cell 6 87, .tmp 7, .tmp 8]) Anc.refl hro (Nat.le_of_ble_eq_true rfl) rfl
      · exact Vm.b18
      · exact Vm.b7
      · exact Vm.b8
      · rfl
      · exact Vm.b102
      · exact Vm.b10
      · rw [hv]; exact fun β => rfl
      · exact Vm.b102
theorem all_gen (r : Rul) (p : Prc) (l : List Evt) (p1 p2 p3 p4 : Nat) (hok : ∀ x ∈ p.P, x.ok) (hn : p.P.length ≤ 1000000) (hc : p.cells.length ≤ 1000000) (hpo : p.ports.length ≤ 1000000) (hll : l.length ≤ 200) (hE0 : procE r p = 0) (hB : ∀ q, q < l.length → badAt p l q = 0) (k0 : Nat) (hk0 : k0 ≤ l.length) (hAll : AllK r ⟨p, [], 0⟩ l k0) (v : SV) (L1 : List HB) (hc0 : (k0 = l.length ∧ v = (.tup [dnS (foldD r ⟨p, [], 0⟩ l) 9 10 11 12, .int .i64 (-1), .int .i64 0]) ∧ L1 = [.gone, .gone, .gone, .gone, .gone, .gone, .gone, .gone, .gone, prO (foldD r ⟨p, [], 0⟩ l).p.P, i64O (foldD r ⟨p, [], 0⟩ l).p.cells, inO (foldD r ⟨p, [], 0⟩ l).p.ports, evO_ (foldD r ⟨p, [], 0⟩ l).sent]) ∨ (k0 < l.length ∧ hE r (foldD r ⟨p, [], 0⟩ (l.take k0)).p (l.getD k0 ⟨0, 0, 0, 0, 0⟩) ≠ 0 ∧ v = (.tup [dn0, .nat .i64 k0, .int .i64 (hE r (foldD r ⟨p, [], 0⟩ (l.take k0)).p (l.getD k0 ⟨0, 0, 0, 0, 0⟩))]) ∧ L1 = [.gone])) : LitOk Try.prog 32 [.agg [.int .u64 r.seed, .int .i64 r.ahead, .int .i64 r.fuel], .agg [.int .i64 p.id, .sl 1 2 [] 5 0 p.P.length (some p1), .sl 3 4 [] 1 0 p.cells.length (some p2), .int .i64 p.draws, .int .i64 p.seq, .sl 5 6 [] 1 0 p.ports.length (some p3)], .sl 7 8 [] 5 0 l.length (some p4)]
    [.gone, .gone, .ro (.arr p.P.length 5 (prS p.P)), .gone, .ro (.arr p.cells.length 1 (i64S p.cells)), .gone, .ro (.arr p.ports.length 1 (i64S p.ports)), .gone, .ro (.arr l.length 5 (evtsS l))]
    v L1 := by

  refine litOkM (fn := Try.f32) 9 80 0 rfl rfl rfl rfl rfl (by simp only [StableL, Stable, hp, pcS, dnB, DnI.at_, dnS, dnR, i64S, prS, insS, sndsS, sndS, evtsS, evtS, prO, i64O, inO, evO_, cB, sB, HB.stable]; simp [HB.born, evtS]) rfl fun w0 M E hro => ?_
  repeat' (first | refine Ctl.h ?_ | ((with_reducible intro hif); first | (focus (cases hif; done)) | (simp only [JH] at hif; try (exfalso; omega)) | (try (exfalso; omega))) | ((first | ((with_reducible apply J22 cA0_ok tab_ok); (· rfl)) | ((with_reducible apply J23 fol cA0_ok tab_ok); (· rfl)) | with_reducible apply J24); (· (simp only [push_cast, ↓JP, Nat.reduceAdd, Nat.reduceEqDiff, Nat.reduceLT, Nat.reduceMul, Nat.reduceLeDiff, reduceCtorEq, reduceIte, ↓JK, JE, prc_eta, cA0, sPCheck, sTakes, sPCopy, sKCmp, rHs, pcS, prO, i64O, inO, evm_ev, rHaB, rHaG, donP, dnI, isIns_insS, isI_int, isEvt_evtS, evtOf_evtS, ls_evtsS, ls_evtsS', nodupN, memN, inR, inN, ↓evtS_sz, ↓evtS_ag, ↓evtS_pl, nav_evt, nav_evt0, nav_evt1, nav_evt2, rul_eta, ls_zero, JB, dnS, dnR, dnB, evO_, dn0, evtsS, dnn_eta, hE0]; rfl)); (try kernel_rfl); (try exact Vm.b116)) | fail)
  refine WF.loopAt (fun (j : Nat) => j ≤ l.length) (fun (j : Nat) => [(2, .sl 7 8 [] 5 0 l.length (some p4)), (3, .ptr 9 []), (4, .ptr 10 []), (6, .ptr 11 []), (26, .sl 7 8 [] 5 0 l.length (some p4)), (27, .nat .i64 l.length), (28, .nat .i64 j)]) (fun (j : Nat) => [.gone, .gone, .ro (.arr p.P.length 5 (prS p.P)), .gone, .ro (.arr p.cells.length 1 (i64S p.cells)), .gone, .ro (.arr p.ports.length 1 (i64S p.ports)), .gone, .ro (.arr l.length 5 (evtsS l)), .own 80 (.agg [.int .u64 r.seed, .int .i64 r.ahead, .int .i64 r.fuel]) true, .own 82 (.agg [.int .i64 p.id, .sl 1 2 [] 5 0 p.P.length (some p1), .sl 3 4 [] 1 0 p.cells.length (some p2), .int .i64 p.draws, .int .i64 p.seq, .sl 5 6 [] 1 0 p.ports.length (some p3)]) true, .own 87 dn0 true]) (fun (j : Nat) => l.length - j) 0 (Nat.zero_le _) ?_ ?_ rfl ?_ ?_ rfl ?_
  · exact Vm.b11
  · exact Vm.b8
  · exact Vm.b102
  · exact Vm.b102
  intro j hj
  by_cases hjl : j < l.length
  · have hbj := hB j hjl
    obtain ⟨hT, hK⟩ := badAt_zero hbj
    by_cases hj0 : 0 < j
    · have hK := hK hj0
      have hjm : ((j : Int) - 1).toNat = j - 1 := by omega
      repeat' (first | refine Ctl.h ?_ | ((with_reducible intro hif); first | (focus (cases hif; done)) | (simp only [JH] at hif; try (exfalso; omega)) | (try (exfalso; omega))) | ((first | ((with_reducible apply J22 cA0_ok tab_ok); (· rfl)) | ((with_reducible apply J23 fol cA0_ok tab_ok); (· rfl)) | with_reducible apply J24); (· (simp only [push_cast, ↓JP, Nat.reduceAdd, Nat.reduceEqDiff, Nat.reduceLT, Nat.reduceMul, Nat.reduceLeDiff, reduceCtorEq, reduceIte, ↓JK, JE, prc_eta, cA0, sPCheck, sTakes, sPCopy, sKCmp, rHs, pcS, prO, i64O, inO, evm_ev, rHaB, rHaG, donP, dnI, isIns_insS, isI_int, isEvt_evtS, evtOf_evtS, ls_evtsS, ls_evtsS', nodupN, memN, inR, inN, ↓evtS_sz, ↓evtS_ag, ↓evtS_pl, nav_evt, nav_evt0, nav_evt1, nav_evt2, rul_eta, ls_zero, JB, dnS, dnR, dnB, evO_, dn0, evtsS, dnn_eta, hjl, hT, hj0, hjm, hK]; rfl)); (try kernel_rfl); (try exact Vm.b116)) | fail)
      refine At.next (j + 1) ?_ ?_ ?_ rfl ?_ ?_ rfl
      · omega
      · exact Vm.b11
      · exact Vm.b8
      · exact Vm.b102
      · exact Vm.b102
    · obtain rfl : j = 0 := by omega
      repeat' (first | refine Ctl.h ?_ | ((with_reducible intro hif); first | (focus (cases hif; done)) | (simp only [JH] at hif; try (exfalso; omega)) | (try (exfalso; omega))) | ((first | ((with_reducible apply J22 cA0_ok tab_ok); (· rfl)) | ((with_reducible apply J23 fol cA0_ok tab_ok); (· rfl)) | with_reducible apply J24); (· (simp only [push_cast, ↓JP, Nat.reduceAdd, Nat.reduceEqDiff, Nat.reduceLT, Nat.reduceMul, Nat.reduceLeDiff, reduceCtorEq, reduceIte, ↓JK, JE, prc_eta, cA0, sPCheck, sTakes, sPCopy, sKCmp, rHs, pcS, prO, i64O, inO, evm_ev, rHaB, rHaG, donP, dnI, isIns_insS, isI_int, isEvt_evtS, evtOf_evtS, ls_evtsS, ls_evtsS', nodupN, memN, inR, inN, ↓evtS_sz, ↓evtS_ag, ↓evtS_pl, nav_evt, nav_evt0, nav_evt1, nav_evt2, rul_eta, ls_zero, JB, dnS, dnR, dnB, evO_, dn0, evtsS, dnn_eta, hjl, hT]; rfl)); (try kernel_rfl); (try exact Vm.b116)) | fail)
      refine At.next (0 + 1) ?_ ?_ ?_ rfl ?_ ?_ rfl
      · omega
      · exact Vm.b11
      · exact Vm.b8
      · exact Vm.b102
      · exact Vm.b102
  · obtain rfl : j = l.length := by omega
    repeat' (first | refine Ctl.h ?_ | ((with_reducible intro hif); first | (focus (cases hif; done)) | (simp only [JH] at hif; try (exfalso; omega)) | (try (exfalso; omega))) | ((first | ((with_reducible apply J22 cA0_ok tab_ok); (· rfl)) | ((with_reducible apply J23 fol cA0_ok tab_ok); (· rfl)) | with_reducible apply J24); (· exact Vm.b117); (try kernel_rfl); (try exact Vm.b116)) | fail)
    refine WF.nilIn 39 5 (evtsS []) 15 87 (.agg [.agg [.int .i64 p.id, .sl 12 12 [] 5 0 p.P.length none, .sl 13 13 [] 1 0 p.cells.length none, .int .i64 p.draws, .int .i64 p.seq, .sl 14 14 [] 1 0 p.ports.length none], .sl 0 0 [] 0 0 0 (some 0), .nat .i64 0]) (dnR p.id p.draws p.seq p.P.length p.cells.length p.ports.length 0 0 12 13 14 21) true (fun _ q => evtsS_stable q) rfl (fun β b0 hβ => by
        have e := nil_cl (k := 5) b0 (show β 21 = (none, 0) from hβ)
        simp only [dnR, SV.cl, SV.den, denL] at e ⊢
        rw [e]) (fun h hb => by
        have k11 := hb 12 (show (12 : Nat) ≤ 21 by decide)
        have k12 := hb 13 (show (13 : Nat) ≤ 21 by decide)
        have k13 := hb 14 (show (14 : Nat) ≤ 21 by decide)
        have k15 := hb 21 (show (21 : Nat) ≤ 21 by decide)
        simp [dnR, Stable, StableL, k11, k12, k13, k15]) rfl (fun n k f e => by cases e) (fun n k f e => by cases e) rfl ?_
    simp only [setH, List.cons_append, List.nil_append]
    with_reducible apply WF.range (fn' := Try.f85) 23
    · exact Vm.b59
    · exact Vm.b24
    · rfl
    · rfl
    · rfl
    · rfl
    · rfl
    · rfl
    · rfl
    intro E1 rec tmps after hE1 hrec hcf haft
    repeat' (first | refine Ctl.h ?_ | ((with_reducible intro hif); first | (focus (cases hif; done)) | (simp only [JH] at hif; try (exfalso; omega)) | (try (exfalso; omega))) | ((first | ((with_reducible apply J22 cA0_ok tab_ok); (· rfl)) | ((with_reducible apply J23 fol cA0_ok tab_ok); (· rfl)) | with_reducible apply J24); (· exact Vm.b117); (try kernel_rfl); (try exact Vm.b116)) | fail)
    refine At.pick (L2 := [.gone, .gone, .ro (.arr p.P.length 5 (prS p.P)), .gone, .ro (.arr p.cells.length 1 (i64S p.cells)), .gone, .ro (.arr p.ports.length 1 (i64S p.ports)), .gone, .ro (.arr l.length 5 (evtsS l)), .own 80 (.agg [.int .u64 r.seed, .int .i64 r.ahead, .int .i64 r.fuel]) true, .own 82 (.agg [.int .i64 p.id, .sl 1 2 [] 5 0 p.P.length (some p1), .sl 3 4 [] 1 0 p.cells.length (some p2), .int .i64 p.draws, .int .i64 p.seq, .sl 5 6 [] 1 0 p.ports.length (some p3)]) true, .own 87 dn0 true, prO (⟨p, [], 0⟩ : Dn).p.P, .gone, inO (⟨p, [], 0⟩ : Dn).p.ports, dnB (⟨p, [], 0⟩ : Dn) 12 24 14 25, .own 3 (.int .i64 (-1)) true, .own 46 (.nat .i64 0) true, .own 136 (.ptr 15 []) true, .own 80 (.agg [.int .u64 r.seed, .int .i64 r.ahead, .int .i64 r.fuel]) true, .own 83 (.sl 7 8 [] 5 0 l.length (some p4)) true, .gone, .raw (.deferred (some [])), .raw (.loop (rec .ready none)), i64O (⟨p, [], 0⟩ : Dn).p.cells, evO_ (⟨p, [], 0⟩ : Dn).sent]) (φ2 := [(0, .yl 23), (1, .ptr 20 []), (2, .ptr 18 []), (3, .ptr 19 []), (7, .sl 7 8 [] 5 0 l.length (some p4)), (8, .nat .i64 l.length), (9, .nat .i64 0)]) [0, 1, 2, 3, 4, 5, 6, 7, 8, 9, 10, 11, 12, 13, 14, 15, 16, 17, 18, 19, 20, 21, 22, 23, 13, 21] rfl rfl rfl ?_ rfl ?_ ?_ ?_ rfl ?_
    · exact Vm.b37
    · exact Vm.b102
    · exact Vm.b68
    · exact Vm.b102
    refine WF.loopAt (fun (z : KD) => z.k ≤ k0 ∧ foldD r (⟨p, [], 0⟩ : Dn) (l.take z.k) = z.D) (fun (z : KD) => [(0, .yl 23), (1, .ptr 20 []), (2, .ptr 18 []), (3, .ptr 19 []), (7, .sl 7 8 [] 5 0 l.length (some p4)), (8, .nat .i64 l.length), (9, .nat .i64 z.k)]) (fun (z : KD) => [.gone, .gone, .ro (.arr p.P.length 5 (prS p.P)), .gone, .ro (.arr p.cells.length 1 (i64S p.cells)), .gone, .ro (.arr p.ports.length 1 (i64S p.ports)), .gone, .ro (.arr l.length 5 (evtsS l)), .own 80 (.agg [.int .u64 r.seed, .int .i64 r.ahead, .int .i64 r.fuel]) true, .own 82 (.agg [.int .i64 p.id, .sl 1 2 [] 5 0 p.P.length (some p1), .sl 3 4 [] 1 0 p.cells.length (some p2), .int .i64 p.draws, .int .i64 p.seq, .sl 5 6 [] 1 0 p.ports.length (some p3)]) true, .own 87 dn0 true, prO z.D.p.P, .gone, inO z.D.p.ports, dnB z.D 12 24 14 25, .own 3 (.int .i64 (-1)) true, .own 46 (.nat .i64 0) true, .own 136 (.ptr 15 []) true, .own 80 (.agg [.int .u64 r.seed, .int .i64 r.ahead, .int .i64 r.fuel]) true, .own 83 (.sl 7 8 [] 5 0 l.length (some p4)) true, .gone, .raw (.deferred (some [])), .raw (.loop (rec .ready none)), i64O z.D.p.cells, evO_ z.D.sent]) (fun (z : KD) => k0 - z.k) ⟨0, (⟨p, [], 0⟩ : Dn)⟩ ⟨Nat.zero_le _, rfl⟩ ?_ ?_ rfl ?_ ?_ rfl ?_
    · exact Vm.b11
    · exact Vm.b8
    · exact Vm.b102
    · exact Vm.b102
    rintro ⟨k, D⟩ ⟨hk, hD⟩
    dsimp only at hk hD ⊢
    by_cases hkA : k < k0
    · have hkl : k < l.length := by omega
      have hFI := fi_all hE0 hok hB k (by omega) (fun i hi => hAll i (by omega))
      rw [hD] at hFI
      obtain ⟨e, he⟩ : ∃ e, l.getD k ⟨0, 0, 0, 0, 0⟩ = e := ⟨_, rfl⟩
      have hT : takesB p e = true := by rw [← he]; exact badAt_takes (hB k hkl)
      have hGk := hFI.hg (procE_zero hE0).1 hok hT
      have hus := hFI.us
      have hsu := hFI.su
      have hrf := of_decide_eq_true (show decide _ = true from (procE_zero hE0).1)
      have hmul : r.fuel * (k : Int) ≤ 4096 * 200 := Int.le_trans (Int.mul_le_mul_of_nonneg_right hrf.2.2.2 (by omega)) (by omega)
      have hsl : D.sent.length ≤ 1000000 := by omega
      have hul : D.used ≤ 1000000000 := by omega
      have h0 : hE r D.p e = 0 := by
        have := hAll k hkA
        rw [hD, he] at this
        exact this
      have hD' : foldD r (⟨p, [], 0⟩ : Dn) (l.take (k + 1)) = hS r D e := by rw [take_snoc ⟨0, 0, 0, 0, 0⟩ hkl, foldD_snoc, hD, he]

      repeat' (first | refine Ctl.h ?_ | ((with_reducible intro hif); first | (focus (cases hif; done)) | (simp only [JH] at hif; try (exfalso; omega)) | (try (exfalso; omega))) | ((first | ((with_reducible apply J22 cAG_ok tab_ok); (· rfl)) | ((with_reducible apply J23 fol cAG_ok tab_ok); (· rfl)) | with_reducible apply J24); (· exact Vm.b118); (try kernel_rfl); (try exact Vm.b116)) | fail)
      with_reducible apply WF.split 6 1
      · rfl
      with_reducible apply At.run cAG_ok tab_ok
      · rfl
      · rfl
      · rfl
      · exact Vm.b110
      · exact Vm.b111
      with_reducible apply At.yield (gr := _)
      · rfl
      · rfl
      · rfl
      · rfl
      · rfl
      · rfl
      · exact Vm.b110
      · exact Vm.b112
      · exact Vm.b110
      · exact Vm.b111
      · exact Vm.b110
      · exact Vm.b111
      · exact Vm.b112
      · exact hrec
      · exact hcf
      · rfl
      · rfl
      · rfl
      intro lb E2 next hE2 hnext
      repeat' (first | refine Ctl.h ?_ | ((with_reducible intro hif); first | (focus (cases hif; done)) | (simp only [JH] at hif; try (exfalso; omega)) | (try (exfalso; omega))) | ((first | ((with_reducible apply J22 cAG_ok tab_ok); (· rfl)) | ((with_reducible apply J23 fol cAG_ok tab_ok); (· rfl)) | with_reducible apply J24); (· exact Vm.b118); (try kernel_rfl); (try exact Vm.b116)) | fail)
      with_reducible apply At.begins hrec
      · rfl
      with_reducible refine At.code ?_
      repeat' (first | refine Ctl.h ?_ | ((with_reducible intro hif); first | (focus (cases hif; done)) | (simp only [JH] at hif; try (exfalso; omega)) | (try (exfalso; omega))) | ((first | ((with_reducible apply J22 cAG_ok tab_ok); (· rfl)) | ((with_reducible apply J23 fol cAG_ok tab_ok); (· rfl)) | with_reducible apply J24); (· exact Vm.b118); (try kernel_rfl); (try exact Vm.b116)) | fail)
      with_reducible apply At.roundNormal
      · exact Vm.b112
      apply hnext
      with_reducible apply At.runEnd cAG_ok tab_ok
      · rfl
      · rfl
      · rfl
      · exact Vm.b110
      · exact Vm.b111
      repeat' (first | refine Ctl.h ?_ | ((with_reducible intro hif); first | (focus (cases hif; done)) | (simp only [JH] at hif; try (exfalso; omega)) | (try (exfalso; omega))) | ((first | ((with_reducible apply J22 cAG_ok tab_ok); (· rfl)) | ((with_reducible apply J23 fol cAG_ok tab_ok); (· rfl)) | with_reducible apply J24); (· exact Vm.b118); (try kernel_rfl); (try exact Vm.b116)) | fail)
      refine At.nextPick [0, 1, 2, 3, 4, 5, 6, 7, 8, 9, 10, 11, 12, 13, 14, 15, 16, 17, 18, 19, 20, 21, 22, 23, 27, 28] ⟨k + 1, hS r D e⟩ ?_ rfl rfl rfl ?_ rfl ?_ ?_ ?_ rfl
      · dsimp only; exact ⟨⟨by omega, hD'⟩, by omega⟩
      · exact Vm.b37
      · exact Vm.b102
      · exact Vm.b68
      · exact Vm.b102
    · obtain rfl : k = k0 := by omega
      rcases hc0 with ⟨rfl, rfl, rfl⟩ | ⟨hkl, hk1, rfl, rfl⟩
      · rw [List.take_length] at hD

        repeat' (first | refine Ctl.h ?_ | ((with_reducible intro hif); first | (focus (cases hif; done)) | (simp only [JH] at hif; try (exfalso; omega)) | (try (exfalso; omega))) | ((first | ((with_reducible apply J22 cA0_ok tab_ok); (· rfl)) | ((with_reducible apply J23 fol cA0_ok tab_ok); (· rfl)) | with_reducible apply J24); (· exact Vm.b117); (try kernel_rfl); (try exact Vm.b116)) | fail)
        with_reducible apply At.itNormal .ready
        · rfl
        · rfl
        · intro h; cases h
        apply haft
        intro w1 M1 D1 hA
        dsimp only
        repeat' (first | refine Ctl.h ?_ | ((with_reducible intro hif); first | (focus (cases hif; done)) | (simp only [JH] at hif; try (exfalso; omega)) | (try (exfalso; omega))) | ((first | ((with_reducible apply J22 cA0_ok tab_ok); (· rfl)) | ((with_reducible apply J23 fol cA0_ok tab_ok); (· rfl)) | with_reducible apply J24); (· exact Vm.b117); (try kernel_rfl); (try exact Vm.b116)) | fail)
        apply At.endsPick [0, 1, 2, 3, 4, 5, 6, 7, 8, 12, 24, 14, 25] tab_ok (fn := Try.f32) (rs := [.cell 6 87, .tmp 7, .tmp 8]) hA hro (Nat.le_of_ble_eq_true rfl) rfl
        · exact Vm.b18
        · exact Vm.b24
        · rfl
        · rfl
        · rfl
        · (repeat' (first | exact trivial | exact .inl rfl | exact .inr (.same _) | exact .inr .loose | exact .inr (.arr (by assumption)) | apply And.intro | (rw [hD]; exact .inr (.same _))))
        · rfl
        · exact Vm.b102
        · exact Vm.b10
        · rw [hD]; exact fun β => rfl
        · exact Vm.b102
      · skip
        have hFI := fi_all hE0 hok hB k (by omega) (fun i hi => hAll i (by omega))
        rw [hD] at hFI
        obtain ⟨e, he⟩ : ∃ e, l.getD k ⟨0, 0, 0, 0, 0⟩ = e := ⟨_, rfl⟩
        have hT : takesB p e = true := by rw [← he]; exact badAt_takes (hB k hkl)
        have hGk := hFI.hg (procE_zero hE0).1 hok hT
        have hus := hFI.us
        have hsu := hFI.su
        have hrf := of_decide_eq_true (show decide _ = true from (procE_zero hE0).1)
        have hmul : r.fuel * (k : Int) ≤ 4096 * 200 := Int.le_trans (Int.mul_le_mul_of_nonneg_right hrf.2.2.2 (by omega)) (by omega)
        have hsl : D.sent.length ≤ 1000000 := by omega
        have hul : D.used ≤ 1000000000 := by omega
        rw [hD, he] at hk1

        repeat' (first | refine Ctl.h ?_ | ((with_reducible intro hif); first | (focus (cases hif; done)) | (simp only [JH] at hif; try (exfalso; omega)) | (try (exfalso; omega))) | ((first | ((with_reducible apply J22 cAB_ok tab_ok); (· rfl)) | ((with_reducible apply J23 fol cAB_ok tab_ok); (· rfl)) | with_reducible apply J24); (· exact Vm.b119); (try kernel_rfl); (try exact Vm.b116)) | fail)
        with_reducible apply WF.split 6 1
        · rfl
        with_reducible apply At.run cAB_ok tab_ok
        · rfl
        · rfl
        · rfl
        · exact Vm.b113
        · exact Vm.b111
        with_reducible apply At.yield (gr := _)
        · rfl
        · rfl
        · rfl
        · rfl
        · rfl
        · rfl
        · exact Vm.b113
        · exact Vm.b114
        · exact Vm.b113
        · exact Vm.b111
        · exact Vm.b113
        · exact Vm.b111
        · exact Vm.b114
        · exact hrec
        · exact hcf
        · rfl
        · rfl
        · rfl
        intro lb E2 next hE2 hnext
        repeat' (first | refine Ctl.h ?_ | ((with_reducible intro hif); first | (focus (cases hif; done)) | (simp only [JH] at hif; try (exfalso; omega)) | (try (exfalso; omega))) | ((first | ((with_reducible apply J22 cAB_ok tab_ok); (· rfl)) | ((with_reducible apply J23 fol cAB_ok tab_ok); (· rfl)) | with_reducible apply J24); (· exact Vm.b119); (try kernel_rfl); (try exact Vm.b116)) | fail)
        with_reducible apply At.begins hrec
        · rfl
        with_reducible refine At.code ?_
        repeat' (first | refine Ctl.h ?_ | ((with_reducible intro hif); first | (focus (cases hif; done)) | (simp only [JH] at hif; try (exfalso; omega)) | (try (exfalso; omega))) | ((first | ((with_reducible apply J22 cAB_ok tab_ok); (· rfl)) | ((with_reducible apply J23 fol cAB_ok tab_ok); (· rfl)) | with_reducible apply J24); (· exact Vm.b119); (try kernel_rfl); (try exact Vm.b116)) | fail)
        with_reducible apply At.roundExit
        · exact Vm.b114
        apply hnext
        with_reducible apply At.runEnd cAB_ok tab_ok
        · rfl
        · rfl
        · rfl
        · exact Vm.b113
        · exact Vm.b111
        repeat' (first | refine Ctl.h ?_ | ((with_reducible intro hif); first | (focus (cases hif; done)) | (simp only [JH] at hif; try (exfalso; omega)) | (try (exfalso; omega))) | ((first | ((with_reducible apply J22 cAB_ok tab_ok); (· rfl)) | ((with_reducible apply J23 fol cAB_ok tab_ok); (· rfl)) | with_reducible apply J24); (· exact Vm.b119); (try kernel_rfl); (try exact Vm.b116)) | fail)
        with_reducible apply At.itRet .done
        · rfl
        · rfl
        · intro h; cases h
        apply haft
        intro w1 M1 D1 hA
        dsimp only
        repeat' (first | refine Ctl.h ?_ | ((with_reducible intro hif); first | (focus (cases hif; done)) | (simp only [JH] at hif; try (exfalso; omega)) | (try (exfalso; omega))) | ((first | ((with_reducible apply J22 cAB_ok tab_ok); (· rfl)) | ((with_reducible apply J23 fol cAB_ok tab_ok); (· rfl)) | with_reducible apply J24); (· (simp only [push_cast, ↓JP, Nat.reduceAdd, Nat.reduceEqDiff, Nat.reduceLT, Nat.reduceMul, Nat.reduceLeDiff, reduceCtorEq, reduceIte, ↓JK, JE, prc_eta, cAB, sPCheck, sTakes, sPCopy, sKCmp, rHs, pcS, prO, i64O, inO, evm_ev, rHaB, rHaG, donP, dnI, isIns_insS, isI_int, isEvt_evtS, evtOf_evtS, ls_evtsS, ls_evtsS', nodupN, memN, inR, inN, ↓evtS_sz, ↓evtS_ag, ↓evtS_pl, nav_evt, nav_evt0, nav_evt1, nav_evt2, rul_eta, ls_zero, JB, dnS, dnR, dnB, evO_, dn0, evtsS, dnn_eta, hk1]; rfl)); (try kernel_rfl); (try exact Vm.b116)) | fail)
        apply At.endsRet tab_ok (fn := Try.f32) (rs := [.cell 6 87, .tmp 7, .tmp 8]) hA hro (Nat.le_of_ble_eq_true rfl) rfl
        · exact Vm.b18
        · exact Vm.b7
        · exact Vm.b8
        · rfl
        · exact Vm.b102
        · exact Vm.b10
        · rw [hD, he]; exact fun β => rfl
        · exact Vm.b102
theorem all_fail (r : Rul) (p : Prc) (l : List Evt) (p1 p2 p3 p4 : Nat) (hok : ∀ x ∈ p.P, x.ok) (hn : p.P.length ≤ 1000000) (hc : p.cells.length ≤ 1000000) (hpo : p.ports.length ≤ 1000000) (hll : l.length ≤ 200) (hE0 : procE r p = 0) (hB : ∀ q, q < l.length → badAt p l q = 0) (k0 : Nat) (hk0 : k0 < l.length) (hAll : AllK r ⟨p, [], 0⟩ l k0) (hk1 : hE r (foldD r ⟨p, [], 0⟩ (l.take k0)).p (l.getD k0 ⟨0, 0, 0, 0, 0⟩) ≠ 0) : LitOk Try.prog 32 [.agg [.int .u64 r.seed, .int .i64 r.ahead, .int .i64 r.fuel], .agg [.int .i64 p.id, .sl 1 2 [] 5 0 p.P.length (some p1), .sl 3 4 [] 1 0 p.cells.length (some p2), .int .i64 p.draws, .int .i64 p.seq, .sl 5 6 [] 1 0 p.ports.length (some p3)], .sl 7 8 [] 5 0 l.length (some p4)]
    [.gone, .gone, .ro (.arr p.P.length 5 (prS p.P)), .gone, .ro (.arr p.cells.length 1 (i64S p.cells)), .gone, .ro (.arr p.ports.length 1 (i64S p.ports)), .gone, .ro (.arr l.length 5 (evtsS l))]
    (.tup [dn0, .nat .i64 k0, .int .i64 (hE r (foldD r ⟨p, [], 0⟩ (l.take k0)).p (l.getD k0 ⟨0, 0, 0, 0, 0⟩))]) [.gone] :=
  all_gen r p l p1 p2 p3 p4 hok hn hc hpo hll hE0 hB k0 (by omega) hAll _ _ (.inr ⟨hk0, hk1, rfl, rfl⟩)
theorem all_ok (r : Rul) (p : Prc) (l : List Evt) (p1 p2 p3 p4 : Nat) (hok : ∀ x ∈ p.P, x.ok) (hn : p.P.length ≤ 1000000) (hc : p.cells.length ≤ 1000000) (hpo : p.ports.length ≤ 1000000) (hll : l.length ≤ 200) (hE0 : procE r p = 0) (hB : ∀ q, q < l.length → badAt p l q = 0) (hAll : AllK r ⟨p, [], 0⟩ l l.length) : LitOk Try.prog 32 [.agg [.int .u64 r.seed, .int .i64 r.ahead, .int .i64 r.fuel], .agg [.int .i64 p.id, .sl 1 2 [] 5 0 p.P.length (some p1), .sl 3 4 [] 1 0 p.cells.length (some p2), .int .i64 p.draws, .int .i64 p.seq, .sl 5 6 [] 1 0 p.ports.length (some p3)], .sl 7 8 [] 5 0 l.length (some p4)]
    [.gone, .gone, .ro (.arr p.P.length 5 (prS p.P)), .gone, .ro (.arr p.cells.length 1 (i64S p.cells)), .gone, .ro (.arr p.ports.length 1 (i64S p.ports)), .gone, .ro (.arr l.length 5 (evtsS l))]
    (.tup [dnS (foldD r ⟨p, [], 0⟩ l) 9 10 11 12, .int .i64 (-1), .int .i64 0]) [.gone, .gone, .gone, .gone, .gone, .gone, .gone, .gone, .gone, prO (foldD r ⟨p, [], 0⟩ l).p.P, i64O (foldD r ⟨p, [], 0⟩ l).p.cells, inO (foldD r ⟨p, [], 0⟩ l).p.ports, evO_ (foldD r ⟨p, [], 0⟩ l).sent] :=
  all_gen r p l p1 p2 p3 p4 hok hn hc hpo hll hE0 hB l.length (Nat.le_refl _) hAll _ _ (.inl ⟨rfl, rfl, rfl⟩)
end Go.Proofs.Ytjliakjbdcplcaa.Vm
end
end

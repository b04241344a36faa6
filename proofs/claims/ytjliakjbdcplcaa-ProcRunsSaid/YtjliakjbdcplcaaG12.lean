import Derived.Test.YtjliakjbdcplcaaG6
import Derived.Test.YtjliakjbdcplcaaG7
import Derived.Test.YtjliakjbdcplcaaG8
import Derived.Test.YtjliakjbdcplcaaG11
section
namespace Go.Proofs.Ytjliakjbdcplcaa.Vm
theorem b66 {P : Prop} (h : P := by (repeat' (first | exact trivial | exact rfl | assumption | apply Stable.ite | apply And.intro | intro _ | (simp only [Stable, StableL, fldS_st, hp, List.getD_cons_succ, List.getD_cons_zero, HB.born, true_or, pkB, HB.stable, i64S, prS, insS, sndsS, sndS, evtsS, evtS]; done)))) : P := h
theorem b67 {P : Prop} (h : P := by simp only [push_cast, ↓JP, Nat.reduceAdd, Nat.reduceEqDiff, Nat.reduceLT, Nat.reduceMul, Nat.reduceLeDiff, reduceCtorEq, reduceIte, ↓JK, noDefer, List.drop_zero, List.drop_succ_cons, cFl, rFl, pkB, fldS, nodupN, memN, inR, inN]; rfl) : P := h
theorem b68 {P : Prop} (h : P := by first | rfl | (simp only [push_cast, ↓JP, Nat.reduceAdd, Nat.reduceEqDiff, Nat.reduceLT, Nat.reduceMul, Nat.reduceLeDiff, reduceCtorEq, reduceIte, ↓JK, noDefer, List.drop_zero, List.drop_succ_cons, cFl, rFl, pkB, fldS, nodupN, memN, inR, inN]; done)) : P := h
theorem b69 {P : Prop} (h : P := by (repeat' (first | exact trivial | exact .inl rfl | exact .inr (.same _) | exact .inr .loose | exact .inr (.arr (by assumption)) | apply And.intro | (refine .inr (less_fld rfl ?_); intro q hq β; rcases q with _ | _ | _ | q <;> first | rfl | (exfalso; omega))))) : P := h
theorem b70 {P : Prop} (h : P := by (repeat' (first | exact trivial | exact ⟨_, rfl, fun β => rfl⟩ | apply And.intro))) : P := h
theorem b71 {P : Prop} (h : P := by (repeat' (first | exact trivial | exact .inl rfl | exact .inr (.same _) | exact .inr .loose | exact .inr (.arr (by assumption)) | apply And.intro | exact .inr (less_fld rfl fun q hq β => rfl)))) : P := h
theorem b72 {P : Prop} (h : P := by (simp only [push_cast, ↓JP, Nat.reduceAdd, Nat.reduceEqDiff, Nat.reduceLT, Nat.reduceMul, Nat.reduceLeDiff, reduceCtorEq, reduceIte, ↓JK, cNan, sNan, inR, inN, h1, h2]; rfl)) : P := h
end Go.Proofs.Ytjliakjbdcplcaa.Vm
end
section
namespace Go.Proofs.Ytjliakjbdcplcaa.Vm
open Go.RowKit
attribute [local push_cast] runR opG gtmp gval gus opX tmpsOf tm tmO tmP restr look look2 tab tys zs ets eqB eqBL allB numOf ieq Int.cast_ofNat_Int Int.ofNat_zero beq_true beq_false frameOf ev evL ofV opV loadV noW pushF wrsL setH allBorn allGone HB.born HB.isGone HB.val SV.plain dstOk hp nav fitsT SV.size sizeL SV.isAgg TK.size TK.agg bin binE binN binI arN arI cmpN cmpI keq kn narrow callV storeV setp fillV buildV buildSliceV makeV sliceV appendV copyV List.isEmpty_nil srcV evO asN ite_t ite_f ite_bool ite_int ite_nat maxV v_beq v_ble v_blt cond_true cond_false List.getElem?_cons_zero List.getElem?_cons_succ List.getD_cons_zero List.getD_cons_succ List.getD_nil List.length_cons List.length_nil List.take_succ_cons List.take_zero List.set_cons_zero List.set_cons_succ List.cons_append List.nil_append List.append_assoc List.replicate_succ List.replicate_zero Nat.zero_add Nat.add_zero decide_true decide_false Bool.true_and Bool.and_true Bool.false_and Bool.and_false Bool.true_or Bool.or_true Bool.false_or Bool.or_false beq_self_eq_true Bool.or_self Nat.lt_irrefl Nat.not_lt_zero Nat.le_refl Option.getD_some Option.getD_none BEq.rfl Bool.not_true Bool.not_false Bool.cond_true_left Bool.cond_false_right prS sndsS i64S nav_ins nav_ins0 nav_ins1 nav_ins2 nav_ins3 nav_ins4 nav_snd nav_snd0 nav_snd1 nav_snd2 isIns_insS insOf_insS isSnd_sndS sndOf_sndS isI_int isI_nat iOf
set_option linter.unusedVariables false
set_option linter.unusedSimpArgs false
set_option maxRecDepth 100000
set_option maxHeartbeats 4000000
theorem fldS_ren (σ : Nat → Nat) (b : Nat) : (fun q => (fldS b q).ren σ) = fldS (σ b) := by
  funext q
  rcases q with _ | _ | _ | q <;> rfl
theorem less_fld {t n b : Nat} {ex : Bool} {σ : Nat → Nat} {g : Nat → SV} (hb : σ b = b) (hg : ∀ q, q < n → ∀ β, (g q).cl β = (fldS b q).cl β) : Less (.own t (.arr n 4 g) ex) ((HB.own t (.arr n 4 (fldS b)) ex).ren σ) := by
  have e : (HB.own t (.arr n 4 (fldS b)) ex).ren σ = .own t (.arr n 4 (fldS b)) ex := by
    simp only [HB.ren, SV.ren]
    rw [fldS_ren, hb]
  rw [e]
  exact .val (fun β => arrCl fun q hq => hg q hq β) (fun n1 k1 f1 e => by injection e with e1 e2 e3; subst e1 e2; exact ⟨_, rfl⟩) (fun n1 k1 f1 e => by injection e with e1 e2 e3; subst e1 e2; exact ⟨_, rfl⟩)
theorem apsF_lit : LitOk Try.prog 108 [.sl 0 0 [] 0 0 0 (some 0), .fn 109 [.ptr 2 []]] [.gone, .gone, pkB 1] (.sl 3 3 [] 4 0 3 none) [.gone, .gone, pkB 1, .own 170 (.arr 3 4 (fldS 1)) false] := by
  refine litOkM (fn := Try.f108) 3 13 0 rfl rfl rfl rfl rfl (by simp only [StableL, Stable, hp, fldS_st, hp, List.getD_cons_succ, List.getD_cons_zero, HB.born, true_or, pkB, HB.stable, i64S, prS, insS, sndsS, sndS, evtsS, evtS]; simp [HB.born]) rfl fun w0 M E hro => ?_
  repeat' (first | with_reducible (first | apply J1 | apply J3 | apply J4 | apply J5 | apply J6 | apply J7 | apply J8 | apply J9 | apply J10 | apply J11 | apply J12 | apply J13 | apply J14 | apply J15 | apply J16 | apply J17 | apply J18 | apply J19 | apply J20 | refine J2 ?_) | ((with_reducible apply J21); (· rfl)) | ((with_reducible intro hif); first | (focus (cases hif; done)) | (simp only [JH] at hif; try (exfalso; omega)) | (try (exfalso; omega))) | ((first | ((with_reducible apply J22 c1_ok tab_ok); (· rfl)) | ((with_reducible apply J23 fol c1_ok tab_ok); (· rfl)) | with_reducible apply J24); (· exact Vm.b64); (try kernel_rfl); (try exact Vm.b22)) | fail)
  with_reducible apply WF.range (fn' := Try.f109) 28
  · exact Vm.b56
  · exact Vm.b24
  · rfl
  · rfl
  · rfl
  · rfl
  · rfl
  · rfl
  · rfl
  intro E1 rec tmps after hE1 hrec hcf haft
  repeat' (first | with_reducible (first | apply J1 | apply J3 | apply J4 | apply J5 | apply J6 | apply J7 | apply J8 | apply J9 | apply J10 | apply J11 | apply J12 | apply J13 | apply J14 | apply J15 | apply J16 | apply J17 | apply J18 | apply J19 | apply J20 | refine J2 ?_) | ((with_reducible apply J21); (· rfl)) | ((with_reducible intro hif); first | (focus (cases hif; done)) | (simp only [JH] at hif; try (exfalso; omega)) | (try (exfalso; omega))) | ((first | ((with_reducible apply J22 c1_ok tab_ok); (· rfl)) | ((with_reducible apply J23 fol c1_ok tab_ok); (· rfl)) | with_reducible apply J24); (· exact Vm.b64); (try kernel_rfl); (try exact Vm.b22)) | fail)
  refine WF.loopAt (fun (j : Nat) => j ≤ 3) (fun (j : Nat) => [(0, .yl 5), (1, .ptr 2 []), (17, .sl 6 6 [] 4 0 3 none), (18, .nat .i64 3), (19, .nat .i64 j)]) (fun (j : Nat) => match j with | 0 => [.gone, .gone, pkB 1, .own 166 (.sl 0 0 [] 0 0 0 (some 0)) true, .raw (.deferred (some [])), .raw (.loop (rec .ready none)), .own 170 (.arr 3 4 (fldS 1)) true] | 1 => [.gone, .gone, pkB 1, .own 166 (.sl 7 7 [] 4 0 1 none) true, .raw (.deferred (some [])), .raw (.loop (rec .ready none)), .own 170 (.arr 3 4 (fldS 1)) true, .own 170 (.arr 1 4 (fldS 1)) false] | 2 => [.gone, .gone, pkB 1, .own 166 (.sl 7 7 [] 4 0 2 none) true, .raw (.deferred (some [])), .raw (.loop (rec .ready none)), .own 170 (.arr 3 4 (fldS 1)) true, .own 170 (.arr 2 4 (fldS 1)) false] | _ => [.gone, .gone, pkB 1, .own 166 (.sl 7 7 [] 4 0 3 none) true, .raw (.deferred (some [])), .raw (.loop (rec .ready none)), .own 170 (.arr 3 4 (fldS 1)) true, .own 170 (.arr 3 4 (fldS 1)) false]) (fun (j : Nat) => 3 - j) 0 (by omega) ?_ ?_ rfl ?_ ?_ rfl ?_
  · exact Vm.b11
  · exact Vm.b8
  · exact Vm.b66
  · exact Vm.b66
  intro j hj
  have hj4 : j = 0 ∨ j = 1 ∨ j = 2 ∨ j = 3 := by omega
  rcases hj4 with rfl | rfl | rfl | rfl
  · skip
    repeat' (first | with_reducible (first | apply J1 | apply J3 | apply J4 | apply J5 | apply J6 | apply J7 | apply J8 | apply J9 | apply J10 | apply J11 | apply J12 | apply J13 | apply J14 | apply J15 | apply J16 | apply J17 | apply J18 | apply J19 | apply J20 | refine J2 ?_) | ((with_reducible apply J21); (· rfl)) | ((with_reducible intro hif); first | (focus (cases hif; done)) | (simp only [JH] at hif; try (exfalso; omega)) | (try (exfalso; omega))) | ((first | ((with_reducible apply J22 c1_ok tab_ok); (· rfl)) | ((with_reducible apply J23 fol c1_ok tab_ok); (· rfl)) | with_reducible apply J24); (· exact Vm.b64); (try kernel_rfl); (try exact Vm.b22)) | fail)
    with_reducible apply WF.split 2 1
    · rfl
    with_reducible apply At.run c1_ok tab_ok
    · rfl
    · rfl
    · rfl
    · exact Vm.b67
    · exact Vm.b58
    with_reducible apply At.yield (gr := _)
    · rfl
    · rfl
    · rfl
    · rfl
    · rfl
    · rfl
    · exact Vm.b67
    · exact Vm.b68
    · exact Vm.b67
    · exact Vm.b58
    · exact Vm.b67
    · exact Vm.b58
    · exact Vm.b68
    · exact hrec
    · exact hcf
    · rfl
    · rfl
    · rfl
    intro lb E2 next hE2 hnext
    repeat' (first | with_reducible (first | apply J1 | apply J3 | apply J4 | apply J5 | apply J6 | apply J7 | apply J8 | apply J9 | apply J10 | apply J11 | apply J12 | apply J13 | apply J14 | apply J15 | apply J16 | apply J17 | apply J18 | apply J19 | apply J20 | refine J2 ?_) | ((with_reducible apply J21); (· rfl)) | ((with_reducible intro hif); first | (focus (cases hif; done)) | (simp only [JH] at hif; try (exfalso; omega)) | (try (exfalso; omega))) | ((first | ((with_reducible apply J22 c1_ok tab_ok); (· rfl)) | ((with_reducible apply J23 fol c1_ok tab_ok); (· rfl)) | with_reducible apply J24); (· exact Vm.b64); (try kernel_rfl); (try exact Vm.b22)) | fail)
    with_reducible apply At.begins hrec
    · rfl
    with_reducible refine At.code ?_
    repeat' (first | with_reducible (first | apply J1 | apply J3 | apply J4 | apply J5 | apply J6 | apply J7 | apply J8 | apply J9 | apply J10 | apply J11 | apply J12 | apply J13 | apply J14 | apply J15 | apply J16 | apply J17 | apply J18 | apply J19 | apply J20 | refine J2 ?_) | ((with_reducible apply J21); (· rfl)) | ((with_reducible intro hif); first | (focus (cases hif; done)) | (simp only [JH] at hif; try (exfalso; omega)) | (try (exfalso; omega))) | ((first | ((with_reducible apply J22 c1_ok tab_ok); (· rfl)) | ((with_reducible apply J23 fol c1_ok tab_ok); (· rfl)) | with_reducible apply J24); (· exact Vm.b64); (try kernel_rfl); (try exact Vm.b22)) | fail)
    with_reducible apply At.roundNormal
    · exact Vm.b68
    apply hnext
    with_reducible apply At.runEnd c1_ok tab_ok
    · rfl
    · rfl
    · rfl
    · exact Vm.b67
    · exact Vm.b58
    repeat' (first | with_reducible (first | apply J1 | apply J3 | apply J4 | apply J5 | apply J6 | apply J7 | apply J8 | apply J9 | apply J10 | apply J11 | apply J12 | apply J13 | apply J14 | apply J15 | apply J16 | apply J17 | apply J18 | apply J19 | apply J20 | refine J2 ?_) | ((with_reducible apply J21); (· rfl)) | ((with_reducible intro hif); first | (focus (cases hif; done)) | (simp only [JH] at hif; try (exfalso; omega)) | (try (exfalso; omega))) | ((first | ((with_reducible apply J22 c1_ok tab_ok); (· rfl)) | ((with_reducible apply J23 fol c1_ok tab_ok); (· rfl)) | with_reducible apply J24); (· exact Vm.b64); (try kernel_rfl); (try exact Vm.b22)) | fail)
    refine At.nextPick [0, 1, 2, 3, 4, 5, 6, 10] 1 ?_ rfl rfl rfl ?_ rfl ?_ ?_ ?_ rfl
    · omega
    · exact Vm.b69
    · exact Vm.b66
    · exact Vm.b70
    · exact Vm.b66
  · skip
    repeat' (first | with_reducible (first | apply J1 | apply J3 | apply J4 | apply J5 | apply J6 | apply J7 | apply J8 | apply J9 | apply J10 | apply J11 | apply J12 | apply J13 | apply J14 | apply J15 | apply J16 | apply J17 | apply J18 | apply J19 | apply J20 | refine J2 ?_) | ((with_reducible apply J21); (· rfl)) | ((with_reducible intro hif); first | (focus (cases hif; done)) | (simp only [JH] at hif; try (exfalso; omega)) | (try (exfalso; omega))) | ((first | ((with_reducible apply J22 c1_ok tab_ok); (· rfl)) | ((with_reducible apply J23 fol c1_ok tab_ok); (· rfl)) | with_reducible apply J24); (· exact Vm.b64); (try kernel_rfl); (try exact Vm.b22)) | fail)
    with_reducible apply WF.split 2 1
    · rfl
    with_reducible apply At.run c1_ok tab_ok
    · rfl
    · rfl
    · rfl
    · exact Vm.b67
    · exact Vm.b58
    with_reducible apply At.yield (gr := _)
    · rfl
    · rfl
    · rfl
    · rfl
    · rfl
    · rfl
    · exact Vm.b67
    · exact Vm.b68
    · exact Vm.b67
    · exact Vm.b58
    · exact Vm.b67
    · exact Vm.b58
    · exact Vm.b68
    · exact hrec
    · exact hcf
    · rfl
    · rfl
    · rfl
    intro lb E2 next hE2 hnext
    repeat' (first | with_reducible (first | apply J1 | apply J3 | apply J4 | apply J5 | apply J6 | apply J7 | apply J8 | apply J9 | apply J10 | apply J11 | apply J12 | apply J13 | apply J14 | apply J15 | apply J16 | apply J17 | apply J18 | apply J19 | apply J20 | refine J2 ?_) | ((with_reducible apply J21); (· rfl)) | ((with_reducible intro hif); first | (focus (cases hif; done)) | (simp only [JH] at hif; try (exfalso; omega)) | (try (exfalso; omega))) | ((first | ((with_reducible apply J22 c1_ok tab_ok); (· rfl)) | ((with_reducible apply J23 fol c1_ok tab_ok); (· rfl)) | with_reducible apply J24); (· exact Vm.b64); (try kernel_rfl); (try exact Vm.b22)) | fail)
    with_reducible apply At.begins hrec
    · rfl
    with_reducible refine At.code ?_
    repeat' (first | with_reducible (first | apply J1 | apply J3 | apply J4 | apply J5 | apply J6 | apply J7 | apply J8 | apply J9 | apply J10 | apply J11 | apply J12 | apply J13 | apply J14 | apply J15 | apply J16 | apply J17 | apply J18 | apply J19 | apply J20 | refine J2 ?_) | ((with_reducible apply J21); (· rfl)) | ((with_reducible intro hif); first | (focus (cases hif; done)) | (simp only [JH] at hif; try (exfalso; omega)) | (try (exfalso; omega))) | ((first | ((with_reducible apply J22 c1_ok tab_ok); (· rfl)) | ((with_reducible apply J23 fol c1_ok tab_ok); (· rfl)) | with_reducible apply J24); (· exact Vm.b64); (try kernel_rfl); (try exact Vm.b22)) | fail)
    with_reducible apply At.roundNormal
    · exact Vm.b68
    apply hnext
    with_reducible apply At.runEnd c1_ok tab_ok
    · rfl
    · rfl
    · rfl
    · exact Vm.b67
    · exact Vm.b58
    repeat' (first | with_reducible (first | apply J1 | apply J3 | apply J4 | apply J5 | apply J6 | apply J7 | apply J8 | apply J9 | apply J10 | apply J11 | apply J12 | apply J13 | apply J14 | apply J15 | apply J16 | apply J17 | apply J18 | apply J19 | apply J20 | refine J2 ?_) | ((with_reducible apply J21); (· rfl)) | ((with_reducible intro hif); first | (focus (cases hif; done)) | (simp only [JH] at hif; try (exfalso; omega)) | (try (exfalso; omega))) | ((first | ((with_reducible apply J22 c1_ok tab_ok); (· rfl)) | ((with_reducible apply J23 fol c1_ok tab_ok); (· rfl)) | with_reducible apply J24); (· exact Vm.b64); (try kernel_rfl); (try exact Vm.b22)) | fail)
    refine At.nextPick [0, 1, 2, 3, 4, 5, 6, 11] 2 ?_ rfl rfl rfl ?_ rfl ?_ ?_ ?_ rfl
    · omega
    · exact Vm.b69
    · exact Vm.b66
    · exact Vm.b70
    · exact Vm.b66
  · skip
    repeat' (first | with_reducible (first | apply J1 | apply J3 | apply J4 | apply J5 | apply J6 | apply J7 | apply J8 | apply J9 | apply J10 | apply J11 | apply J12 | apply J13 | apply J14 | apply J15 | apply J16 | apply J17 | apply J18 | apply J19 | apply J20 | refine J2 ?_) | ((with_reducible apply J21); (· rfl)) | ((with_reducible intro hif); first | (focus (cases hif; done)) | (simp only [JH] at hif; try (exfalso; omega)) | (try (exfalso; omega))) | ((first | ((with_reducible apply J22 c1_ok tab_ok); (· rfl)) | ((with_reducible apply J23 fol c1_ok tab_ok); (· rfl)) | with_reducible apply J24); (· exact Vm.b64); (try kernel_rfl); (try exact Vm.b22)) | fail)
    with_reducible apply WF.split 2 1
    · rfl
    with_reducible apply At.run c1_ok tab_ok
    · rfl
    · rfl
    · rfl
    · exact Vm.b67
    · exact Vm.b58
    with_reducible apply At.yield (gr := _)
    · rfl
    · rfl
    · rfl
    · rfl
    · rfl
    · rfl
    · exact Vm.b67
    · exact Vm.b68
    · exact Vm.b67
    · exact Vm.b58
    · exact Vm.b67
    · exact Vm.b58
    · exact Vm.b68
    · exact hrec
    · exact hcf
    · rfl
    · rfl
    · rfl
    intro lb E2 next hE2 hnext
    repeat' (first | with_reducible (first | apply J1 | apply J3 | apply J4 | apply J5 | apply J6 | apply J7 | apply J8 | apply J9 | apply J10 | apply J11 | apply J12 | apply J13 | apply J14 | apply J15 | apply J16 | apply J17 | apply J18 | apply J19 | apply J20 | refine J2 ?_) | ((with_reducible apply J21); (· rfl)) | ((with_reducible intro hif); first | (focus (cases hif; done)) | (simp only [JH] at hif; try (exfalso; omega)) | (try (exfalso; omega))) | ((first | ((with_reducible apply J22 c1_ok tab_ok); (· rfl)) | ((with_reducible apply J23 fol c1_ok tab_ok); (· rfl)) | with_reducible apply J24); (· exact Vm.b64); (try kernel_rfl); (try exact Vm.b22)) | fail)
    with_reducible apply At.begins hrec
    · rfl
    with_reducible refine At.code ?_
    repeat' (first | with_reducible (first | apply J1 | apply J3 | apply J4 | apply J5 | apply J6 | apply J7 | apply J8 | apply J9 | apply J10 | apply J11 | apply J12 | apply J13 | apply J14 | apply J15 | apply J16 | apply J17 | apply J18 | apply J19 | apply J20 | refine J2 ?_) | ((with_reducible apply J21); (· rfl)) | ((with_reducible intro hif); first | (focus (cases hif; done)) | (simp only [JH] at hif; try (exfalso; omega)) | (try (exfalso; omega))) | ((first | ((with_reducible apply J22 c1_ok tab_ok); (· rfl)) | ((with_reducible apply J23 fol c1_ok tab_ok); (· rfl)) | with_reducible apply J24); (· exact Vm.b64); (try kernel_rfl); (try exact Vm.b22)) | fail)
    with_reducible apply At.roundNormal
    · exact Vm.b68
    apply hnext
    with_reducible apply At.runEnd c1_ok tab_ok
    · rfl
    · rfl
    · rfl
    · exact Vm.b67
    · exact Vm.b58
    repeat' (first | with_reducible (first | apply J1 | apply J3 | apply J4 | apply J5 | apply J6 | apply J7 | apply J8 | apply J9 | apply J10 | apply J11 | apply J12 | apply J13 | apply J14 | apply J15 | apply J16 | apply J17 | apply J18 | apply J19 | apply J20 | refine J2 ?_) | ((with_reducible apply J21); (· rfl)) | ((with_reducible intro hif); first | (focus (cases hif; done)) | (simp only [JH] at hif; try (exfalso; omega)) | (try (exfalso; omega))) | ((first | ((with_reducible apply J22 c1_ok tab_ok); (· rfl)) | ((with_reducible apply J23 fol c1_ok tab_ok); (· rfl)) | with_reducible apply J24); (· exact Vm.b64); (try kernel_rfl); (try exact Vm.b22)) | fail)
    refine At.nextPick [0, 1, 2, 3, 4, 5, 6, 11] 3 ?_ rfl rfl rfl ?_ rfl ?_ ?_ ?_ rfl
    · omega
    · exact Vm.b69
    · exact Vm.b66
    · exact Vm.b70
    · exact Vm.b66
  · skip
    repeat' (first | with_reducible (first | apply J1 | apply J3 | apply J4 | apply J5 | apply J6 | apply J7 | apply J8 | apply J9 | apply J10 | apply J11 | apply J12 | apply J13 | apply J14 | apply J15 | apply J16 | apply J17 | apply J18 | apply J19 | apply J20 | refine J2 ?_) | ((with_reducible apply J21); (· rfl)) | ((with_reducible intro hif); first | (focus (cases hif; done)) | (simp only [JH] at hif; try (exfalso; omega)) | (try (exfalso; omega))) | ((first | ((with_reducible apply J22 c1_ok tab_ok); (· rfl)) | ((with_reducible apply J23 fol c1_ok tab_ok); (· rfl)) | with_reducible apply J24); (· exact Vm.b64); (try kernel_rfl); (try exact Vm.b22)) | fail)
    with_reducible apply At.itNormal .ready
    · rfl
    · rfl
    · intro h; cases h
    apply haft
    intro w1 M1 D1 hA
    dsimp only
    repeat' (first | with_reducible (first | apply J1 | apply J3 | apply J4 | apply J5 | apply J6 | apply J7 | apply J8 | apply J9 | apply J10 | apply J11 | apply J12 | apply J13 | apply J14 | apply J15 | apply J16 | apply J17 | apply J18 | apply J19 | apply J20 | refine J2 ?_) | ((with_reducible apply J21); (· rfl)) | ((with_reducible intro hif); first | (focus (cases hif; done)) | (simp only [JH] at hif; try (exfalso; omega)) | (try (exfalso; omega))) | ((first | ((with_reducible apply J22 c1_ok tab_ok); (· rfl)) | ((with_reducible apply J23 fol c1_ok tab_ok); (· rfl)) | with_reducible apply J24); (· exact Vm.b64); (try kernel_rfl); (try exact Vm.b22)) | fail)
    apply At.endsPick [0, 1, 2, 7] tab_ok (fn := Try.f108) (rs := [.tmp 4]) hA hro (Nat.le_of_ble_eq_true rfl) rfl
    · exact Vm.b18
    · exact Vm.b24
    · rfl
    · rfl
    · rfl
    · exact Vm.b71
    · rfl
    · exact Vm.b66
    · exact Vm.b10
    · exact fun β => rfl
    · exact Vm.b66
def rApF : Spec := fun args h m => match args with
  | [.sl 0 0 [] 0 0 0 (some 0), .fn f [.ptr a []]] => match h a with
    | .own t (.ptr b []) true => bif Nat.beq t 174 && (Nat.beq f 109 && (h b).born) && nodupN [0, b, a] then some (True, .sl m m [] 4 0 3 none, [b, a], [(a, pkB b), (m, .own 170 (.arr 3 4 (fldS b)) false)]) else none
    | _ => none
  | _ => none
theorem rApF_ok : CallOk Try.prog 108 rApF := by
  refine ⟨named_spec (by kernel_rfl), fun args h m c v rd wr hs hm hc w0 M β h' w R hrd hwr hst => ?_⟩
  unfold rApF at hs
  split at hs
  · rename_i f a
    split at hs
    · rename_i t b ha
      obtain ⟨hb, hs⟩ := bif_some hs
      simp only [Option.some.injEq, Prod.mk.injEq] at hs
      obtain ⟨rfl, rfl, rfl, rfl⟩ := hs
      simp only [Bool.and_eq_true] at hb
      obtain ⟨⟨b1, b2, b3⟩, hnd⟩ := hb
      have b1 := Nat.eq_of_beq_eq_true b1
      have b2 := Nat.eq_of_beq_eq_true b2
      subst b1 b2
      have e0 : rhoL [0, b, a] m 0 = 0 := by simp [rhoL]
      have e1 : rhoL [0, b, a] m 1 = b := by simp [rhoL]
      have e2 : rhoL [0, b, a] m 3 = m := by simp [rhoL]
      have e3 : rhoL [0, b, a] m 2 = a := by simp [rhoL]
      exact bun_ok (h := h) (m := m) [0, b, a] apsF_lit R rfl (by simp) rfl rfl hnd
        ⟨Fit.gone (by rw [R.nil0]; rfl), Fit.gone (by rw [hrd b (by simp)]; exact b3), (by
          show Less (h' a) (.own 174 ((SV.ptr 1 []).ren _) true)
          rw [hrd a (by simp), ha]; simp only [SV.ren, e1]; exact .same _), trivial⟩ hm
        (fun p hp => by
          simp only [newB, List.drop, List.length_cons, List.length_nil, List.mem_cons, List.not_mem_nil, or_false] at hp
          subst hp
          have := hwr (m, .own 170 (.arr 3 4 (fldS b)) false) (by simp)
          exact this) (by simp) rfl
        ⟨trivial, trivial, (by simp [pkB, HB.stable, Stable, hp, HB.born]), trivial⟩ (by simp [Stable, StableL, hp, HB.born, pkB]) ⟨trivial, trivial, (by simp [pkB, HB.stable, Stable, hp, mrgL, HB.born, HB.mine]), (by simp only [HB.stable, Stable]; intro i; rw [fldS_st]; exact .inl rfl), trivial⟩ (by simp [Stable, StableL, hp, mrgL, HB.born, pkB, HB.mine]) (by simp [renL, SV.ren, e3, e0])
        (by simp only [SV.ren, renL, e2]) (by
          show [(a, (pkB 1).ren _), (m, (HB.own 170 (.arr 3 4 (fldS 1)) false).ren _)] = _
          simp only [pkB, HB.ren, SV.ren, fldS_ren, e1])
    · cases hs
  · cases hs
def cApF : FuncId → Option Spec := look2 [(108, rApF)]
theorem cApF_ok : ∀ f S, cApF f = some S → CallOk Try.prog f S := allOk_spec ⟨rApF_ok, trivial⟩
theorem colF_lit : LitOk Try.prog 82 [.fn 109 [.ptr 2 []]] [.gone, .gone, pkB 1] (.sl 3 3 [] 4 0 3 none) [.gone, .gone, pkB 1, .own 170 (.arr 3 4 (fldS 1)) false] := by
  refine litOkM (fn := Try.f82) 3 5 0 rfl rfl rfl rfl rfl (by simp only [StableL, Stable, hp, fldS_st, hp, List.getD_cons_succ, List.getD_cons_zero, HB.born, true_or, pkB, HB.stable, i64S, prS, insS, sndsS, sndS, evtsS, evtS]; simp [HB.born]) rfl fun w0 M E hro => ?_
  repeat' (first | with_reducible (first | apply J1 | apply J3 | apply J4 | apply J5 | apply J6 | apply J7 | apply J8 | apply J9 | apply J10 | apply J11 | apply J12 | apply J13 | apply J14 | apply J15 | apply J16 | apply J17 | apply J18 | apply J19 | apply J20 | refine J2 ?_) | ((with_reducible apply J21); (· rfl)) | ((with_reducible intro hif); first | (focus (cases hif; done)) | (simp only [JH] at hif; try (exfalso; omega)) | (try (exfalso; omega))) | ((first | ((with_reducible apply J22 cApF_ok tab_ok); (· rfl)) | ((with_reducible apply J23 fol cApF_ok tab_ok); (· rfl)) | with_reducible apply J24); (· (simp only [push_cast, ↓JP, Nat.reduceAdd, Nat.reduceEqDiff, Nat.reduceLT, Nat.reduceMul, Nat.reduceLeDiff, reduceCtorEq, reduceIte, ↓JK, cApF, rApF, pkB, nodupN, memN, inR, inN]; rfl)); (try kernel_rfl); (try exact Vm.b22)) | fail)
  apply At.endsPick [0, 1, 2, 3] tab_ok (fn := Try.f82) (rs := [.tmp 2]) Anc.refl hro (Nat.le_of_ble_eq_true rfl) rfl
  · exact Vm.b18
  · exact Vm.b24
  · rfl
  · rfl
  · rfl
  · exact Vm.b71
  · rfl
  · exact Vm.b66
  · exact Vm.b10
  · exact fun β => rfl
  · exact Vm.b66
def rCoF : Spec := fun args h m => match args with
  | [.fn f [.ptr a []]] => match h a with
    | .own t (.ptr b []) true => bif Nat.beq t 174 && (Nat.beq f 109 && (h b).born) && nodupN [0, b, a] then some (True, .sl m m [] 4 0 3 none, [b, a], [(a, pkB b), (m, .own 170 (.arr 3 4 (fldS b)) false)]) else none
    | _ => none
  | _ => none
theorem rCoF_ok : CallOk Try.prog 82 rCoF := by
  refine ⟨named_spec (by kernel_rfl), fun args h m c v rd wr hs hm hc w0 M β h' w R hrd hwr hst => ?_⟩
  unfold rCoF at hs
  split at hs
  · rename_i f a
    split at hs
    · rename_i t b ha
      obtain ⟨hb, hs⟩ := bif_some hs
      simp only [Option.some.injEq, Prod.mk.injEq] at hs
      obtain ⟨rfl, rfl, rfl, rfl⟩ := hs
      simp only [Bool.and_eq_true] at hb
      obtain ⟨⟨b1, b2, b3⟩, hnd⟩ := hb
      have b1 := Nat.eq_of_beq_eq_true b1
      have b2 := Nat.eq_of_beq_eq_true b2
      subst b1 b2
      have e0 : rhoL [0, b, a] m 0 = 0 := by simp [rhoL]
      have e1 : rhoL [0, b, a] m 1 = b := by simp [rhoL]
      have e2 : rhoL [0, b, a] m 3 = m := by simp [rhoL]
      have e3 : rhoL [0, b, a] m 2 = a := by simp [rhoL]
      exact bun_ok (h := h) (m := m) [0, b, a] colF_lit R rfl (by simp) rfl rfl hnd
        ⟨Fit.gone (by rw [R.nil0]; rfl), Fit.gone (by rw [hrd b (by simp)]; exact b3), (by
          show Less (h' a) (.own 174 ((SV.ptr 1 []).ren _) true)
          rw [hrd a (by simp), ha]; simp only [SV.ren, e1]; exact .same _), trivial⟩ hm
        (fun p hp => by
          simp only [newB, List.drop, List.length_cons, List.length_nil, List.mem_cons, List.not_mem_nil, or_false] at hp
          subst hp
          have := hwr (m, .own 170 (.arr 3 4 (fldS b)) false) (by simp)
          exact this) (by simp) rfl
        ⟨trivial, trivial, (by simp [pkB, HB.stable, Stable, hp, HB.born]), trivial⟩ (by simp [Stable, StableL, hp, HB.born, pkB]) ⟨trivial, trivial, (by simp [pkB, HB.stable, Stable, hp, mrgL, HB.born, HB.mine]), (by simp only [HB.stable, Stable]; intro i; rw [fldS_st]; exact .inl rfl), trivial⟩ (by simp [Stable, StableL, hp, mrgL, HB.born, pkB, HB.mine]) (by simp [renL, SV.ren, e3, e0])
        (by simp only [SV.ren, renL, e2]) (by
          show [(a, (pkB 1).ren _), (m, (HB.own 170 (.arr 3 4 (fldS 1)) false).ren _)] = _
          simp only [pkB, HB.ren, SV.ren, fldS_ren, e1])
    · cases hs
  · cases hs
def icmp (x y : Int) : Int := if x < y then -1 else if y < x then 1 else 0
theorem nan_lit (x : Int) : LitOk Try.prog 110 [.int .i64 x] [.gone] (.bool false) [.gone] := by
  refine litOkM (fn := Try.f110) 1 6 0 rfl rfl rfl rfl rfl (by simp only [StableL, Stable, hp, fldS_st, hp, List.getD_cons_succ, List.getD_cons_zero, HB.born, true_or, pkB, HB.stable, i64S, prS, insS, sndsS, sndS, evtsS, evtS]; simp [HB.born]) rfl fun w0 M E hro => ?_
  repeat' (first | with_reducible (first | apply J1 | apply J3 | apply J4 | apply J5 | apply J6 | apply J7 | apply J8 | apply J9 | apply J10 | apply J11 | apply J12 | apply J13 | apply J14 | apply J15 | apply J16 | apply J17 | apply J18 | apply J19 | apply J20 | refine J2 ?_) | ((with_reducible apply J21); (· rfl)) | ((with_reducible intro hif); first | (focus (cases hif; done)) | (simp only [JH] at hif; try (exfalso; omega)) | (try (exfalso; omega))) | ((first | ((with_reducible apply J22 cApF_ok tab_ok); (· rfl)) | ((with_reducible apply J23 fol cApF_ok tab_ok); (· rfl)) | with_reducible apply J24); (· (simp only [push_cast, ↓JP, Nat.reduceAdd, Nat.reduceEqDiff, Nat.reduceLT, Nat.reduceMul, Nat.reduceLeDiff, reduceCtorEq, reduceIte, ↓JK, eq_self, inR, inN]; rfl)); (try kernel_rfl); (try exact Vm.b22)) | fail)
  apply At.endsRet tab_ok (fn := Try.f110) (rs := [.tmp 2]) Anc.refl hro (Nat.le_of_ble_eq_true rfl) rfl
  · exact Vm.b18
  · exact Vm.b7
  · exact Vm.b8
  · rfl
  · exact Vm.b66
  · exact Vm.b10
  · exact fun β => rfl
  · exact Vm.b66
def sNan : Spec := fun args h m => match args with
  | [v1] => bif isI .i64 v1 then some (True, .bool false, [], []) else none
  | _ => none
theorem sNan_ok : CallOk Try.prog 110 sNan := by
  refine ⟨named_spec (by kernel_rfl), fun args h m c v rd wr hs hm hc w0 M β h' w R hrd hwr hst => ?_⟩
  unfold sNan at hs
  split at hs
  · rename_i v1
    obtain ⟨hb, hs⟩ := bif_some hs
    simp only [Option.some.injEq, Prod.mk.injEq] at hs
    obtain ⟨rfl, rfl, rfl, rfl⟩ := hs
    have b1 := hb
    refine callRo (views := []) (nan_lit (iOf v1)) ?_ R hm hwr ?_ ?_ ?_
    · intro x hx; cases hx
    · intro β1 hv
      simp only [denL, aggDen, intDen, natDen, boolDen, ls_length, isI_den b1]
    · exact Vm.b66
    · exact Vm.b66
  · cases hs
def cNan : FuncId → Option Spec := look2 [(110, sNan)]
theorem cNan_ok : ∀ f S, cNan f = some S → CallOk Try.prog f S := allOk_spec ⟨sNan_ok, trivial⟩
theorem icmp_lit (x y : Int) : LitOk Try.prog 84 [.int .i64 x, .int .i64 y] [.gone] (.int .i64 (icmp x y)) [.gone] := by
  by_cases h1 : x < y
  · have e : icmp x y = -1 := by unfold icmp; rw [if_pos h1]
    rw [e]
    refine litOkM (fn := Try.f84) 1 20 0 rfl rfl rfl rfl rfl (by simp only [StableL, Stable, hp, fldS_st, hp, List.getD_cons_succ, List.getD_cons_zero, HB.born, true_or, pkB, HB.stable, i64S, prS, insS, sndsS, sndS, evtsS, evtS]; simp [HB.born]) rfl fun w0 M E hro => ?_
    repeat' (first | with_reducible (first | apply J1 | apply J3 | apply J4 | apply J5 | apply J6 | apply J7 | apply J8 | apply J9 | apply J10 | apply J11 | apply J12 | apply J13 | apply J14 | apply J15 | apply J16 | apply J17 | apply J18 | apply J19 | apply J20 | refine J2 ?_) | ((with_reducible apply J21); (· rfl)) | ((with_reducible intro hif); first | (focus (cases hif; done)) | (simp only [JH] at hif; try (exfalso; omega)) | (try (exfalso; omega))) | ((first | ((with_reducible apply J22 cNan_ok tab_ok); (· rfl)) | ((with_reducible apply J23 fol cNan_ok tab_ok); (· rfl)) | with_reducible apply J24); (· (simp only [push_cast, ↓JP, Nat.reduceAdd, Nat.reduceEqDiff, Nat.reduceLT, Nat.reduceMul, Nat.reduceLeDiff, reduceCtorEq, reduceIte, ↓JK, cNan, sNan, inR, inN, h1]; rfl)); (try kernel_rfl); (try exact Vm.b22)) | fail)
    apply At.endsRet tab_ok (fn := Try.f84) (rs := [.tmp 4]) Anc.refl hro (Nat.le_of_ble_eq_true rfl) rfl
    · exact Vm.b18
    · exact Vm.b7
    · exact Vm.b8
    · rfl
    · exact Vm.b66
    · exact Vm.b10
    · exact fun β => rfl
    · exact Vm.b66
  · by_cases h2 : y < x
    · have e : icmp x y = 1 := by unfold icmp; rw [if_neg h1, if_pos h2]
      rw [e]
      refine litOkM (fn := Try.f84) 1 20 0 rfl rfl rfl rfl rfl (by simp only [StableL, Stable, hp, fldS_st, hp, List.getD_cons_succ, List.getD_cons_zero, HB.born, true_or, pkB, HB.stable, i64S, prS, insS, sndsS, sndS, evtsS, evtS]; simp [HB.born]) rfl fun w0 M E hro => ?_
      repeat' (first | with_reducible (first | apply J1 | apply J3 | apply J4 | apply J5 | apply J6 | apply J7 | apply J8 | apply J9 | apply J10 | apply J11 | apply J12 | apply J13 | apply J14 | apply J15 | apply J16 | apply J17 | apply J18 | apply J19 | apply J20 | refine J2 ?_) | ((with_reducible apply J21); (· rfl)) | ((with_reducible intro hif); first | (focus (cases hif; done)) | (simp only [JH] at hif; try (exfalso; omega)) | (try (exfalso; omega))) | ((first | ((with_reducible apply J22 cNan_ok tab_ok); (· rfl)) | ((with_reducible apply J23 fol cNan_ok tab_ok); (· rfl)) | with_reducible apply J24); (· exact Vm.b72); (try kernel_rfl); (try exact Vm.b22)) | fail)
      apply At.endsRet tab_ok (fn := Try.f84) (rs := [.tmp 4]) Anc.refl hro (Nat.le_of_ble_eq_true rfl) rfl
      · exact Vm.b18
      · exact Vm.b7
      · exact Vm.b8
      · rfl
      · exact Vm.b66
      · exact Vm.b10
      · exact fun β => rfl
      · exact Vm.b66
    · have e : icmp x y = 0 := by unfold icmp; rw [if_neg h1, if_neg h2]
      rw [e]
      refine litOkM (fn := Try.f84) 1 20 0 rfl rfl rfl rfl rfl (by simp only [StableL, Stable, hp, fldS_st, hp, List.getD_cons_succ, List.getD_cons_zero, HB.born, true_or, pkB, HB.stable, i64S, prS, insS, sndsS, sndS, evtsS, evtS]; simp [HB.born]) rfl fun w0 M E hro => ?_
      repeat' (first | with_reducible (first | apply J1 | apply J3 | apply J4 | apply J5 | apply J6 | apply J7 | apply J8 | apply J9 | apply J10 | apply J11 | apply J12 | apply J13 | apply J14 | apply J15 | apply J16 | apply J17 | apply J18 | apply J19 | apply J20 | refine J2 ?_) | ((with_reducible apply J21); (· rfl)) | ((with_reducible intro hif); first | (focus (cases hif; done)) | (simp only [JH] at hif; try (exfalso; omega)) | (try (exfalso; omega))) | ((first | ((with_reducible apply J22 cNan_ok tab_ok); (· rfl)) | ((with_reducible apply J23 fol cNan_ok tab_ok); (· rfl)) | with_reducible apply J24); (· exact Vm.b72); (try kernel_rfl); (try exact Vm.b22)) | fail)
      apply At.endsRet tab_ok (fn := Try.f84) (rs := [.tmp 4]) Anc.refl hro (Nat.le_of_ble_eq_true rfl) rfl
      · exact Vm.b18
      · exact Vm.b7
      · exact Vm.b8
      · rfl
      · exact Vm.b66
      · exact Vm.b10
      · exact fun β => rfl
      · exact Vm.b66
def sIcmp : Spec := fun args h m => match args with
  | [v1, v2] => bif isI .i64 v1 && isI .i64 v2 then some (True, .int .i64 (icmp (iOf v1) (iOf v2)), [], []) else none
  | _ => none
theorem sIcmp_ok : CallOk Try.prog 84 sIcmp := by
  refine ⟨named_spec (by kernel_rfl), fun args h m c v rd wr hs hm hc w0 M β h' w R hrd hwr hst => ?_⟩
  unfold sIcmp at hs
  split at hs
  · rename_i v1 v2
    obtain ⟨hb, hs⟩ := bif_some hs
    simp only [Option.some.injEq, Prod.mk.injEq] at hs
    obtain ⟨rfl, rfl, rfl, rfl⟩ := hs
    simp only [Bool.and_eq_true] at hb
    obtain ⟨b1, b2⟩ := hb
    refine callRo (views := []) (icmp_lit (iOf v1) (iOf v2)) ?_ R hm hwr ?_ ?_ ?_
    · intro x hx; cases hx
    · intro β1 hv
      simp only [denL, aggDen, intDen, natDen, boolDen, ls_length, isI_den b1, isI_den b2]
    · exact Vm.b66
    · exact Vm.b66
  · cases hs
end Go.Proofs.Ytjliakjbdcplcaa.Vm
end

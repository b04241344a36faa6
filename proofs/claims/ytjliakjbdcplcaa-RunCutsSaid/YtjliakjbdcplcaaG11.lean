import Derived.Test.YtjliakjbdcplcaaG7
import Derived.Test.YtjliakjbdcplcaaG8
import Derived.Test.YtjliakjbdcplcaaG10
section
namespace Go.Proofs.Ytjliakjbdcplcaa.Vm
theorem b67 {P : Prop} (h : P := by simp only [push_cast, ↓JP, Nat.reduceAdd, Nat.reduceEqDiff, Nat.reduceLT, Nat.reduceMul, Nat.reduceLeDiff, reduceCtorEq, reduceIte, ↓JK, noDefer, List.drop_zero, List.drop_succ_cons, cGo, JM, engP, prP, macP, nodupN, memN, eB, prO, pbB, fbB, rB, rvS, JE, eEnded, eAt, eStep, eState, inR, inN, hst]; rfl) : P := h
theorem b68 {P : Prop} (h : P := by first | rfl | (simp only [push_cast, ↓JP, Nat.reduceAdd, Nat.reduceEqDiff, Nat.reduceLT, Nat.reduceMul, Nat.reduceLeDiff, reduceCtorEq, reduceIte, ↓JK, noDefer, List.drop_zero, List.drop_succ_cons, cGo, JM, engP, prP, macP, nodupN, memN, eB, prO, pbB, fbB, rB, rvS, JE, eEnded, eAt, eStep, eState, inR, inN, hst]; done)) : P := h
theorem b69 {P : Prop} (h : P := by exact ⟨⟨hkf, stepS_good hg hP, hl2, by rw [← hr1, runA_go rfl (by omega) hst]; rfl⟩, by show f.toNat - (k + 1) < f.toNat - k; omega⟩) : P := h
theorem b70 {P : Prop} (h : P := by simp only [push_cast, ↓JP, Nat.reduceAdd, Nat.reduceEqDiff, Nat.reduceLT, Nat.reduceMul, Nat.reduceLeDiff, reduceCtorEq, reduceIte, ↓JK, noDefer, List.drop_zero, List.drop_succ_cons, cGo, JM, engP, prP, macP, nodupN, memN, eB, prO, pbB, fbB, rB, rvS, JE, eEnded, eAt, eStep, eState, inR, inN]; rfl) : P := h
theorem b71 {P : Prop} (h : P := by first | rfl | (simp only [push_cast, ↓JP, Nat.reduceAdd, Nat.reduceEqDiff, Nat.reduceLT, Nat.reduceMul, Nat.reduceLeDiff, reduceCtorEq, reduceIte, ↓JK, noDefer, List.drop_zero, List.drop_succ_cons, cGo, JM, engP, prP, macP, nodupN, memN, eB, prO, pbB, fbB, rB, rvS, JE, eEnded, eAt, eStep, eState, inR, inN]; done)) : P := h
theorem b72 {P : Prop} (h : P := by (repeat' (first | exact trivial | exact rfl | assumption | apply Stable.ite | apply And.intro | intro _ | (simp only [Stable, StableL, i64S, prS, insS, sndsS, sndS, stS, evS, macS, mB, cB, sB, eB, prO, prR, pbB, fbB, rB, rvS, clA, clB, clC, fsS, HB.stable]; done)))) : P := h
theorem b73 {P : Prop} (h : P := by (simp only [push_cast, ↓JP, Nat.reduceAdd, Nat.reduceEqDiff, Nat.reduceLT, Nat.reduceMul, Nat.reduceLeDiff, reduceCtorEq, reduceIte, ↓JK, cGo, JM, rB, rvS, eB, prO, rN, sRRight, sSteps, JE, inR, inN, hrr, nodupN, memN]; rfl)) : P := h
theorem b74 {P : Prop} (h : P := by (simp only [push_cast, ↓JP, Nat.reduceAdd, Nat.reduceEqDiff, Nat.reduceLT, Nat.reduceMul, Nat.reduceLeDiff, reduceCtorEq, reduceIte, ↓JK, cGo, JM, engP, prP, macP, nodupN, memN, eB, prO, pbB, fbB, rB, rvS, JE, eEnded, eAt, eStep, eState, inR, inN, hst, hkf2]; rfl)) : P := h
theorem b75 {P : Prop} (h : P := by (simp only [push_cast, ↓JP, Nat.reduceAdd, Nat.reduceEqDiff, Nat.reduceLT, Nat.reduceMul, Nat.reduceLeDiff, reduceCtorEq, reduceIte, ↓JK, cGo, JM, engP, prP, macP, nodupN, memN, eB, prO, pbB, fbB, rB, rvS, JE, eEnded, eAt, eStep, eState, inR, inN, hst]; rfl)) : P := h
theorem b76 {P : Prop} (h : P := by (simp only [push_cast, ↓JP, Nat.reduceAdd, Nat.reduceEqDiff, Nat.reduceLT, Nat.reduceMul, Nat.reduceLeDiff, reduceCtorEq, reduceIte, ↓JK, cGo, JM, engP, prP, macP, nodupN, memN, eB, prO, pbB, fbB, rB, rvS, JE, eEnded, eAt, eStep, eState, inR, inN, hst, hn190]; rfl)) : P := h
theorem b77 {P : Prop} (h : P := by (simp only [push_cast, ↓JP, Nat.reduceAdd, Nat.reduceEqDiff, Nat.reduceLT, Nat.reduceMul, Nat.reduceLeDiff, reduceCtorEq, reduceIte, ↓JK, cGo, JM, engP, prP, macP, nodupN, memN, eB, prO, pbB, fbB, rB, rvS, JE, eEnded, eAt, eStep, eState, inR, inN, hkf2]; rfl)) : P := h
theorem b78 {P : Prop} (h : P := by (simp only [push_cast, ↓JP, Nat.reduceAdd, Nat.reduceEqDiff, Nat.reduceLT, Nat.reduceMul, Nat.reduceLeDiff, reduceCtorEq, reduceIte, ↓JK, cGo, JM, engP, prP, macP, nodupN, memN, eB, prO, pbB, fbB, rB, rvS, JE, eEnded, eAt, eStep, eState, inR, inN]; rfl)) : P := h
end Go.Proofs.Ytjliakjbdcplcaa.Vm
end
section
namespace Go.Proofs.Ytjliakjbdcplcaa.Vm
open Go.RowKit
attribute [local push_cast] runR opG gtmp gval gus opX tmpsOf tm tmO tmP restr look look2 tab tys zs ets eqB eqBL allB numOf ieq Int.cast_ofNat_Int Int.ofNat_zero beq_true beq_false frameOf ev evL ofV opV loadV noW pushF wrsL setH allBorn allGone HB.born HB.isGone HB.val SV.plain dstOk hp nav fitsT SV.size sizeL SV.isAgg TK.size TK.agg bin binE binN binI arN arI cmpN cmpI keq kn narrow callV storeV setp fillV buildV buildSliceV makeV sliceV appendV copyV List.isEmpty_nil srcV evO asN ite_t ite_f ite_bool ite_int ite_nat maxV v_beq v_ble v_blt cond_true cond_false List.getElem?_cons_zero List.getElem?_cons_succ List.getD_cons_zero List.getD_cons_succ List.getD_nil List.length_cons List.length_nil List.take_succ_cons List.take_zero List.set_cons_zero List.set_cons_succ List.cons_append List.nil_append List.append_assoc List.replicate_succ List.replicate_zero Nat.zero_add Nat.add_zero decide_true decide_false Bool.true_and Bool.and_true Bool.false_and Bool.and_false Bool.true_or Bool.or_true Bool.false_or Bool.or_false beq_self_eq_true Bool.or_self Nat.lt_irrefl Nat.not_lt_zero Nat.le_refl Option.getD_some Option.getD_none BEq.rfl Bool.not_true Bool.not_false Bool.cond_true_left Bool.cond_false_right prS sndsS i64S nav_ins nav_ins0 nav_ins1 nav_ins2 nav_ins3 nav_ins4 nav_snd nav_snd0 nav_snd1 nav_snd2 isIns_insS insOf_insS isSnd_sndS sndOf_sndS isI_int isI_nat iOf
set_option linter.unusedVariables false
set_option linter.unusedSimpArgs false
set_option maxRecDepth 100000
set_option maxHeartbeats 4000000
def rN : Spec := fun args h m => match args with
  | [.ptr r []] => match h r with
    | .own t (.agg [.ptr e [], .fn fi [.ptr a [], .ptr b [], .ptr c []], .nat .i64 u, .bool w]) true => bif Nat.beq t 125 && Nat.beq fi 44 && nodupN [0, r, e, a, b, c] && ((h e).born && (h a).born && (h b).born && (h c).born) then some (True, .bool false, [r, e, a, b, c], [(r, rB e a b c u w)]) else none
    | _ => none
  | _ => none
theorem rB_ren (ρ : Nat → Nat) (e a b c u : Nat) (w : Bool) : (rB e a b c u w).ren ρ = rB (ρ e) (ρ a) (ρ b) (ρ c) u w := rfl
theorem rB_st {h : HM} {e a b c u : Nat} {w : Bool} (h1 : (h e).born = true) (h2 : (h a).born = true) (h3 : (h b).born = true) (h4 : (h c).born = true) : (rB e a b c u w).stable h := by
  simp [rB, rvS, HB.stable, Stable, StableL, h1, h2, h3, h4]
theorem bun_run {ρ : Nat → Nat} {h h' : HM} {r e a b c u e' a' b' c' : Nat} {w : Bool} (he : h r = rB e a b c u w) (ee : h' r = h r) (h1 : ρ e' = e) (h2 : ρ a' = a) (h3 : ρ b' = b) (h4 : ρ c' = c) : Bun1 ρ (h' r) (rB e' a' b' c' u w) := by
  show Less (h' r) (.own 125 ((rvS e' a' b' c' u w).ren ρ) true)
  rw [ee, he]
  simp only [rB, rvS, SV.ren, renL, h1, h2, h3, h4]
  exact .same _
theorem rN_ok : CallOk Try.prog 46 rN := by
  refine ⟨named_spec (by kernel_rfl), fun args h m c v rd wr hs hm hc w0 M β h' w R hrd hwr hst => ?_⟩
  unfold rN at hs
  split at hs
  · rename_i r
    split at hs
    · rename_i t e fi a b c u w hr
      obtain ⟨hb, hs⟩ := bif_some hs
      simp only [Option.some.injEq, Prod.mk.injEq] at hs
      obtain ⟨rfl, rfl, rfl, rfl⟩ := hs
      simp only [Bool.and_eq_true] at hb
      obtain ⟨⟨⟨b1, b2⟩, hnd⟩, ⟨⟨b3, b4⟩, b5⟩, b6⟩ := hb
      have b1 := Nat.eq_of_beq_eq_true b1
      have b2 := Nat.eq_of_beq_eq_true b2
      subst b1 b2
      exact bun_ok (h := h) (m := m) [0, r, e, a, b, c] (rnone_lit u w) R rfl (by simp) rfl rfl hnd
        ⟨Fit.gone (by rw [R.nil0]; rfl), bun_run hr (hrd r (by simp)) rfl rfl rfl rfl, Fit.gone (by rw [hrd e (by simp)]; exact b3), Fit.gone (by rw [hrd a (by simp)]; exact b4), Fit.gone (by rw [hrd b (by simp)]; exact b5), Fit.gone (by rw [hrd c (by simp)]; exact b6), trivial⟩ hm
        (fun p hp => by cases hp) (by simp) rfl
        ⟨trivial, rB_st rfl rfl rfl rfl, trivial, trivial, trivial, trivial, trivial⟩ ⟨rfl, trivial⟩
        ⟨trivial, rB_st rfl rfl rfl rfl, trivial, trivial, trivial, trivial, trivial⟩ trivial rfl rfl rfl
    · cases hs
  · cases hs
def cGo : FuncId → Option Spec := look2 [(46, rN), (47, sRRight), (48, sSteps), (74, eEnded), (75, eAt), (76, eStep), (49, eState)]
theorem cGo_ok : ∀ f S, cGo f = some S → CallOk Try.prog f S := allOk_spec ⟨rN_ok, sRRight_ok, sSteps_ok, eEnded_ok, eAt_ok, eStep_ok, eState_ok, trivial⟩
theorem goF_lit (P : List Ins) (s : Sta) (v : Evi) (x0 : Ins) (u : Nat) (f : Int) (hP : PG P) (V : VOk v) (hG : SG P s) (hu : u ≤ 4611686018427387904) (hf0 : 0 ≤ f) (hf1 : f ≤ 4096) (r : RR) (hr : runA P v f.toNat s x0 [] 0 = r) : LitOk Try.prog 17 [.ptr 1 [], .int .i64 f] [.gone, rB 2 7 8 9 u false, eB 3 6 P.length, mB s v x0 4 5, cB s, sB s, prO P, .gone, .gone, .gone]
    (.tup [.bool (decide (r.bad = 0)), .int .i64 (if r.bad = 190 then 0 else r.bad)]) [.gone, rB 2 7 8 9 (u + r.tr.length) (decide (r.bad ≠ 0) && decide (r.bad ≠ 190)), eB 3 6 P.length, mB r.s v r.x 4 10, cB r.s, .gone, prO P, .gone, .gone, .gone, sB r.s] := by
  have hrr : rrE f = 0 := by unfold rrE; rw [if_neg (by omega)]
  refine litOkM (fn := Try.f17) 10 44 0 rfl rfl rfl rfl rfl (by simp only [StableL, Stable, hp, i64S, prS, insS, sndsS, sndS, stS, evS, macS, mB, cB, sB, eB, prO, prR, pbB, fbB, rB, rvS, HB.stable]; simp [HB.born, rB, rvS, eB, mB, cB, sB, prO]) rfl fun w0 M E hro => ?_
  repeat' (first | with_reducible (first | apply J1 | apply J3 | apply J4 | apply J5 | apply J6 | apply J7 | apply J8 | apply J9 | apply J10 | apply J11 | apply J12 | apply J13 | apply J14 | apply J15 | apply J16 | apply J17 | apply J18 | apply J19 | apply J20 | refine J2 ?_) | ((with_reducible apply J21); (· rfl)) | ((with_reducible intro hif); first | (focus (cases hif; done)) | (simp only [JH] at hif; try (exfalso; omega)) | (try (exfalso; omega))) | ((first | ((with_reducible apply J22 cGo_ok tab_ok); (· rfl)) | ((with_reducible apply J23 fol cGo_ok tab_ok); (· rfl)) | with_reducible apply J24); (· exact Vm.b73); (try kernel_rfl); (try exact Vm.b21)) | fail)
  with_reducible apply WF.range (fn' := Try.f73) 28
  · exact Vm.b48
  · exact Vm.b14
  · rfl
  · rfl
  · rfl
  · rfl
  · rfl
  · rfl
  · rfl
  intro E1 rec tmps after hE1 hrec hcf haft
  repeat' (first | with_reducible (first | apply J1 | apply J3 | apply J4 | apply J5 | apply J6 | apply J7 | apply J8 | apply J9 | apply J10 | apply J11 | apply J12 | apply J13 | apply J14 | apply J15 | apply J16 | apply J17 | apply J18 | apply J19 | apply J20 | refine J2 ?_) | ((with_reducible apply J21); (· rfl)) | ((with_reducible intro hif); first | (focus (cases hif; done)) | (simp only [JH] at hif; try (exfalso; omega)) | (try (exfalso; omega))) | ((first | ((with_reducible apply J22 cGo_ok tab_ok); (· rfl)) | ((with_reducible apply J23 fol cGo_ok tab_ok); (· rfl)) | with_reducible apply J24); (· exact Vm.b62); (try kernel_rfl); (try exact Vm.b21)) | fail)
  refine At.pick (L2 := [.gone, rB 2 7 8 9 (u + 0) false, eB 3 6 P.length, mB s v x0 4 17, cB s, .gone, prO P, .gone, .gone, .gone, .own 52 (.ptr 1 []) true, .own 4 (.bool false) true, .own 46 (.nat .i64 0) true, pbB 2, fbB f, .raw (.deferred (some [])), .raw (.loop (rec .ready none)), sB s]) (φ2 := [(0, .yl 16), (1, .ptr 13 []), (2, .ptr 14 []), (4, .nat .i64 0)]) [0, 1, 2, 3, 4, 5, 6, 7, 8, 9, 10, 11, 12, 13, 14, 15, 16, 5] rfl rfl rfl ?_ rfl ?_ ?_ ?_ rfl ?_
  · exact Vm.b31
  · exact Vm.b59
  · exact Vm.b51
  · exact Vm.b59
  refine WF.loopAt (fun (z : RS) => RInv P v f r z) (fun (z : RS) => [(0, .yl 16), (1, .ptr 13 []), (2, .ptr 14 []), (4, .nat .i64 z.k)]) (fun (z : RS) => [.gone, rB 2 7 8 9 (u + z.k) false, eB 3 6 P.length, mB z.s v z.x 4 17, cB z.s, .gone, prO P, .gone, .gone, .gone, .own 52 (.ptr 1 []) true, .own 4 (.bool false) true, .own 46 (.nat .i64 0) true, pbB 2, fbB f, .raw (.deferred (some [])), .raw (.loop (rec .ready none)), sB z.s]) (fun (z : RS) => f.toNat - z.k) ⟨0, s, x0, [], 0⟩ ⟨Nat.zero_le _, hG, rfl, hr⟩ ?_ ?_ rfl ?_ ?_ rfl ?_
  · exact Vm.b10
  · exact Vm.b7
  · exact Vm.b59
  · exact Vm.b59
  rintro ⟨k, ⟨at1, en, rg, ce, dr, se⟩, x, tr, a⟩ ⟨hk, hg, hl, hr1⟩
  dsimp only at hk hg hl hr1 ⊢
  cases en
  · by_cases hkf : k < f.toNat
    · have hkf2 : (k : Int) < f := by omega
      have hn190 := stepE_ne190 P v ⟨at1, false, rg, ce, dr, se⟩
      have hl2 : (tr ++ [at1]).length = k + 1 := by simp [hl]
      by_cases hst : stepE P v ⟨at1, false, rg, ce, dr, se⟩ = 0
      · repeat' (first | with_reducible (first | apply J1 | apply J3 | apply J4 | apply J5 | apply J6 | apply J7 | apply J8 | apply J9 | apply J10 | apply J11 | apply J12 | apply J13 | apply J14 | apply J15 | apply J16 | apply J17 | apply J18 | apply J19 | apply J20 | refine J2 ?_) | ((with_reducible apply J21); (· rfl)) | ((with_reducible intro hif); first | (focus (cases hif; done)) | (simp only [JH] at hif; try (exfalso; omega)) | (try (exfalso; omega))) | ((first | ((with_reducible apply J22 cGo_ok tab_ok); (· rfl)) | ((with_reducible apply J23 fol cGo_ok tab_ok); (· rfl)) | with_reducible apply J24); (· exact Vm.b74); (try kernel_rfl); (try exact Vm.b21)) | fail)
        with_reducible apply WF.split 3 5
        · rfl
        with_reducible apply At.run cGo_ok tab_ok
        · rfl
        · rfl
        · rfl
        · exact Vm.b67
        · exact Vm.b53
        with_reducible apply At.yield (gr := _)
        · rfl
        · rfl
        · rfl
        · rfl
        · rfl
        · rfl
        · exact Vm.b67
        · exact Vm.b68
        · exact Vm.b67
        · exact Vm.b53
        · exact Vm.b67
        · exact Vm.b53
        · exact Vm.b68
        · exact hrec
        · exact hcf
        · rfl
        · rfl
        · rfl
        intro lb E2 next hE2 hnext
        repeat' (first | with_reducible (first | apply J1 | apply J3 | apply J4 | apply J5 | apply J6 | apply J7 | apply J8 | apply J9 | apply J10 | apply J11 | apply J12 | apply J13 | apply J14 | apply J15 | apply J16 | apply J17 | apply J18 | apply J19 | apply J20 | refine J2 ?_) | ((with_reducible apply J21); (· rfl)) | ((with_reducible intro hif); first | (focus (cases hif; done)) | (simp only [JH] at hif; try (exfalso; omega)) | (try (exfalso; omega))) | ((first | ((with_reducible apply J22 cGo_ok tab_ok); (· rfl)) | ((with_reducible apply J23 fol cGo_ok tab_ok); (· rfl)) | with_reducible apply J24); (· exact Vm.b75); (try kernel_rfl); (try exact Vm.b21)) | fail)
        with_reducible apply At.begins hrec
        · rfl
        with_reducible refine At.code ?_
        repeat' (first | with_reducible (first | apply J1 | apply J3 | apply J4 | apply J5 | apply J6 | apply J7 | apply J8 | apply J9 | apply J10 | apply J11 | apply J12 | apply J13 | apply J14 | apply J15 | apply J16 | apply J17 | apply J18 | apply J19 | apply J20 | refine J2 ?_) | ((with_reducible apply J21); (· rfl)) | ((with_reducible intro hif); first | (focus (cases hif; done)) | (simp only [JH] at hif; try (exfalso; omega)) | (try (exfalso; omega))) | ((first | ((with_reducible apply J22 cGo_ok tab_ok); (· rfl)) | ((with_reducible apply J23 fol cGo_ok tab_ok); (· rfl)) | with_reducible apply J24); (· exact Vm.b75); (try kernel_rfl); (try exact Vm.b21)) | fail)
        with_reducible apply At.roundNormal
        · exact Vm.b68
        apply hnext
        with_reducible apply At.runEnd cGo_ok tab_ok
        · rfl
        · rfl
        · rfl
        · exact Vm.b67
        · exact Vm.b53
        repeat' (first | with_reducible (first | apply J1 | apply J3 | apply J4 | apply J5 | apply J6 | apply J7 | apply J8 | apply J9 | apply J10 | apply J11 | apply J12 | apply J13 | apply J14 | apply J15 | apply J16 | apply J17 | apply J18 | apply J19 | apply J20 | refine J2 ?_) | ((with_reducible apply J21); (· rfl)) | ((with_reducible intro hif); first | (focus (cases hif; done)) | (simp only [JH] at hif; try (exfalso; omega)) | (try (exfalso; omega))) | ((first | ((with_reducible apply J22 cGo_ok tab_ok); (· rfl)) | ((with_reducible apply J23 fol cGo_ok tab_ok); (· rfl)) | with_reducible apply J24); (· exact Vm.b75); (try kernel_rfl); (try exact Vm.b21)) | fail)
        refine At.nextPick [0, 1, 2, 3, 4, 5, 6, 7, 8, 9, 10, 11, 12, 13, 14, 15, 16, 18] ⟨k + 1, stepS P v ⟨at1, false, rg, ce, dr, se⟩, stepX P ⟨at1, false, rg, ce, dr, se⟩ x, tr ++ [at1], at1⟩ ?_ rfl rfl rfl ?_ rfl ?_ ?_ ?_ rfl
        · exact Vm.b69
        · exact Vm.b31
        · exact Vm.b59
        · exact Vm.b51
        · exact Vm.b59
      · rw [runA_bad rfl (by omega) hst] at hr1
        subst hr1
        have hb1 : decide (stepE P v ⟨at1, false, rg, ce, dr, se⟩ = 0) = false := by simp [hst]
        have hb2 : (if stepE P v ⟨at1, false, rg, ce, dr, se⟩ = 190 then 0 else stepE P v ⟨at1, false, rg, ce, dr, se⟩) = stepE P v ⟨at1, false, rg, ce, dr, se⟩ := if_neg hn190
        have hb3 : (decide (stepE P v ⟨at1, false, rg, ce, dr, se⟩ ≠ 0) && decide (stepE P v ⟨at1, false, rg, ce, dr, se⟩ ≠ 190)) = true := by simp [hst, hn190]
        repeat' (first | with_reducible (first | apply J1 | apply J3 | apply J4 | apply J5 | apply J6 | apply J7 | apply J8 | apply J9 | apply J10 | apply J11 | apply J12 | apply J13 | apply J14 | apply J15 | apply J16 | apply J17 | apply J18 | apply J19 | apply J20 | refine J2 ?_) | ((with_reducible apply J21); (· rfl)) | ((with_reducible intro hif); first | (focus (cases hif; done)) | (simp only [JH] at hif; try (exfalso; omega)) | (try (exfalso; omega))) | ((first | ((with_reducible apply J22 cGo_ok tab_ok); (· rfl)) | ((with_reducible apply J23 fol cGo_ok tab_ok); (· rfl)) | with_reducible apply J24); (· exact Vm.b74); (try kernel_rfl); (try exact Vm.b21)) | fail)
        with_reducible apply WF.split 3 5
        · rfl
        with_reducible apply At.run cGo_ok tab_ok
        · rfl
        · rfl
        · rfl
        · exact Vm.b67
        · exact Vm.b53
        with_reducible apply At.yield (gr := _)
        · rfl
        · rfl
        · rfl
        · rfl
        · rfl
        · rfl
        · exact Vm.b67
        · exact Vm.b68
        · exact Vm.b67
        · exact Vm.b53
        · exact Vm.b67
        · exact Vm.b53
        · exact Vm.b68
        · exact hrec
        · exact hcf
        · rfl
        · rfl
        · rfl
        intro lb E2 next hE2 hnext
        repeat' (first | with_reducible (first | apply J1 | apply J3 | apply J4 | apply J5 | apply J6 | apply J7 | apply J8 | apply J9 | apply J10 | apply J11 | apply J12 | apply J13 | apply J14 | apply J15 | apply J16 | apply J17 | apply J18 | apply J19 | apply J20 | refine J2 ?_) | ((with_reducible apply J21); (· rfl)) | ((with_reducible intro hif); first | (focus (cases hif; done)) | (simp only [JH] at hif; try (exfalso; omega)) | (try (exfalso; omega))) | ((first | ((with_reducible apply J22 cGo_ok tab_ok); (· rfl)) | ((with_reducible apply J23 fol cGo_ok tab_ok); (· rfl)) | with_reducible apply J24); (· exact Vm.b75); (try kernel_rfl); (try exact Vm.b21)) | fail)
        with_reducible apply At.begins hrec
        · rfl
        with_reducible refine At.code ?_
        repeat' (first | with_reducible (first | apply J1 | apply J3 | apply J4 | apply J5 | apply J6 | apply J7 | apply J8 | apply J9 | apply J10 | apply J11 | apply J12 | apply J13 | apply J14 | apply J15 | apply J16 | apply J17 | apply J18 | apply J19 | apply J20 | refine J2 ?_) | ((with_reducible apply J21); (· rfl)) | ((with_reducible intro hif); first | (focus (cases hif; done)) | (simp only [JH] at hif; try (exfalso; omega)) | (try (exfalso; omega))) | ((first | ((with_reducible apply J22 cGo_ok tab_ok); (· rfl)) | ((with_reducible apply J23 fol cGo_ok tab_ok); (· rfl)) | with_reducible apply J24); (· exact Vm.b76); (try kernel_rfl); (try exact Vm.b21)) | fail)
        with_reducible apply At.roundRet
        · exact Vm.b68
        apply hnext
        with_reducible apply At.runEnd cGo_ok tab_ok
        · rfl
        · rfl
        · rfl
        · exact Vm.b67
        · exact Vm.b53
        repeat' (first | with_reducible (first | apply J1 | apply J3 | apply J4 | apply J5 | apply J6 | apply J7 | apply J8 | apply J9 | apply J10 | apply J11 | apply J12 | apply J13 | apply J14 | apply J15 | apply J16 | apply J17 | apply J18 | apply J19 | apply J20 | refine J2 ?_) | ((with_reducible apply J21); (· rfl)) | ((with_reducible intro hif); first | (focus (cases hif; done)) | (simp only [JH] at hif; try (exfalso; omega)) | (try (exfalso; omega))) | ((first | ((with_reducible apply J22 cGo_ok tab_ok); (· rfl)) | ((with_reducible apply J23 fol cGo_ok tab_ok); (· rfl)) | with_reducible apply J24); (· exact Vm.b75); (try kernel_rfl); (try exact Vm.b21)) | fail)
        with_reducible apply At.itRet .done
        · rfl
        · rfl
        · intro h; cases h
        apply haft
        intro w1 M1 D1 hA
        dsimp only
        rw [hb1, hb2]
        try rw [hl2]
        try rw [hb3]
        repeat' (first | with_reducible (first | apply J1 | apply J3 | apply J4 | apply J5 | apply J6 | apply J7 | apply J8 | apply J9 | apply J10 | apply J11 | apply J12 | apply J13 | apply J14 | apply J15 | apply J16 | apply J17 | apply J18 | apply J19 | apply J20 | refine J2 ?_) | ((with_reducible apply J21); (· rfl)) | ((with_reducible intro hif); first | (focus (cases hif; done)) | (simp only [JH] at hif; try (exfalso; omega)) | (try (exfalso; omega))) | ((first | ((with_reducible apply J22 cGo_ok tab_ok); (· rfl)) | ((with_reducible apply J23 fol cGo_ok tab_ok); (· rfl)) | with_reducible apply J24); (· exact Vm.b75); (try kernel_rfl); (try exact Vm.b21)) | fail)
        apply At.endsPick [0, 1, 2, 3, 4, 5, 6, 7, 8, 9, 18] tab_ok (fn := Try.f17) (rs := [.cell 4 4, .cell 5 46]) hA hro (Nat.le_of_ble_eq_true rfl) rfl
        · exact Vm.b12
        · exact Vm.b14
        · rfl
        · rfl
        · rfl
        · exact Vm.b31
        · rfl
        · exact Vm.b59
        · exact Vm.b9
        · exact fun β => rfl
        · exact Vm.b59
    · have e0 : f.toNat - k = 0 := by omega
      have hkf2 : ¬ (k : Int) < f := by omega
      rw [e0, runA_zero rfl] at hr1
      subst hr1
      repeat' (first | with_reducible (first | apply J1 | apply J3 | apply J4 | apply J5 | apply J6 | apply J7 | apply J8 | apply J9 | apply J10 | apply J11 | apply J12 | apply J13 | apply J14 | apply J15 | apply J16 | apply J17 | apply J18 | apply J19 | apply J20 | refine J2 ?_) | ((with_reducible apply J21); (· rfl)) | ((with_reducible intro hif); first | (focus (cases hif; done)) | (simp only [JH] at hif; try (exfalso; omega)) | (try (exfalso; omega))) | ((first | ((with_reducible apply J22 cGo_ok tab_ok); (· rfl)) | ((with_reducible apply J23 fol cGo_ok tab_ok); (· rfl)) | with_reducible apply J24); (· exact Vm.b77); (try kernel_rfl); (try exact Vm.b21)) | fail)
      with_reducible apply WF.split 3 5
      · rfl
      with_reducible apply At.run cGo_ok tab_ok
      · rfl
      · rfl
      · rfl
      · exact Vm.b70
      · exact Vm.b53
      with_reducible apply At.yield (gr := _)
      · rfl
      · rfl
      · rfl
      · rfl
      · rfl
      · rfl
      · exact Vm.b70
      · exact Vm.b71
      · exact Vm.b70
      · exact Vm.b53
      · exact Vm.b70
      · exact Vm.b53
      · exact Vm.b71
      · exact hrec
      · exact hcf
      · rfl
      · rfl
      · rfl
      intro lb E2 next hE2 hnext
      repeat' (first | with_reducible (first | apply J1 | apply J3 | apply J4 | apply J5 | apply J6 | apply J7 | apply J8 | apply J9 | apply J10 | apply J11 | apply J12 | apply J13 | apply J14 | apply J15 | apply J16 | apply J17 | apply J18 | apply J19 | apply J20 | refine J2 ?_) | ((with_reducible apply J21); (· rfl)) | ((with_reducible intro hif); first | (focus (cases hif; done)) | (simp only [JH] at hif; try (exfalso; omega)) | (try (exfalso; omega))) | ((first | ((with_reducible apply J22 cGo_ok tab_ok); (· rfl)) | ((with_reducible apply J23 fol cGo_ok tab_ok); (· rfl)) | with_reducible apply J24); (· exact Vm.b78); (try kernel_rfl); (try exact Vm.b21)) | fail)
      with_reducible apply At.begins hrec
      · rfl
      with_reducible refine At.code ?_
      repeat' (first | with_reducible (first | apply J1 | apply J3 | apply J4 | apply J5 | apply J6 | apply J7 | apply J8 | apply J9 | apply J10 | apply J11 | apply J12 | apply J13 | apply J14 | apply J15 | apply J16 | apply J17 | apply J18 | apply J19 | apply J20 | refine J2 ?_) | ((with_reducible apply J21); (· rfl)) | ((with_reducible intro hif); first | (focus (cases hif; done)) | (simp only [JH] at hif; try (exfalso; omega)) | (try (exfalso; omega))) | ((first | ((with_reducible apply J22 cGo_ok tab_ok); (· rfl)) | ((with_reducible apply J23 fol cGo_ok tab_ok); (· rfl)) | with_reducible apply J24); (· exact Vm.b78); (try kernel_rfl); (try exact Vm.b21)) | fail)
      with_reducible apply At.roundRet
      · exact Vm.b71
      apply hnext
      with_reducible apply At.runEnd cGo_ok tab_ok
      · rfl
      · rfl
      · rfl
      · exact Vm.b70
      · exact Vm.b53
      repeat' (first | with_reducible (first | apply J1 | apply J3 | apply J4 | apply J5 | apply J6 | apply J7 | apply J8 | apply J9 | apply J10 | apply J11 | apply J12 | apply J13 | apply J14 | apply J15 | apply J16 | apply J17 | apply J18 | apply J19 | apply J20 | refine J2 ?_) | ((with_reducible apply J21); (· rfl)) | ((with_reducible intro hif); first | (focus (cases hif; done)) | (simp only [JH] at hif; try (exfalso; omega)) | (try (exfalso; omega))) | ((first | ((with_reducible apply J22 cGo_ok tab_ok); (· rfl)) | ((with_reducible apply J23 fol cGo_ok tab_ok); (· rfl)) | with_reducible apply J24); (· exact Vm.b78); (try kernel_rfl); (try exact Vm.b21)) | fail)
      with_reducible apply At.itRet .done
      · rfl
      · rfl
      · intro h; cases h
      apply haft
      intro w1 M1 D1 hA
      dsimp only
      try rw [hl]
      repeat' (first | with_reducible (first | apply J1 | apply J3 | apply J4 | apply J5 | apply J6 | apply J7 | apply J8 | apply J9 | apply J10 | apply J11 | apply J12 | apply J13 | apply J14 | apply J15 | apply J16 | apply J17 | apply J18 | apply J19 | apply J20 | refine J2 ?_) | ((with_reducible apply J21); (· rfl)) | ((with_reducible intro hif); first | (focus (cases hif; done)) | (simp only [JH] at hif; try (exfalso; omega)) | (try (exfalso; omega))) | ((first | ((with_reducible apply J22 cGo_ok tab_ok); (· rfl)) | ((with_reducible apply J23 fol cGo_ok tab_ok); (· rfl)) | with_reducible apply J24); (· exact Vm.b78); (try kernel_rfl); (try exact Vm.b21)) | fail)
      apply At.endsPick [0, 1, 2, 3, 4, 5, 6, 7, 8, 9, 17] tab_ok (fn := Try.f17) (rs := [.cell 4 4, .cell 5 46]) hA hro (Nat.le_of_ble_eq_true rfl) rfl
      · exact Vm.b12
      · exact Vm.b14
      · rfl
      · rfl
      · rfl
      · exact Vm.b31
      · rfl
      · exact Vm.b59
      · exact Vm.b9
      · exact fun β => rfl
      · exact Vm.b59
  · rw [runA_end rfl] at hr1
    subst hr1
    repeat' (first | with_reducible (first | apply J1 | apply J3 | apply J4 | apply J5 | apply J6 | apply J7 | apply J8 | apply J9 | apply J10 | apply J11 | apply J12 | apply J13 | apply J14 | apply J15 | apply J16 | apply J17 | apply J18 | apply J19 | apply J20 | refine J2 ?_) | ((with_reducible apply J21); (· rfl)) | ((with_reducible intro hif); first | (focus (cases hif; done)) | (simp only [JH] at hif; try (exfalso; omega)) | (try (exfalso; omega))) | ((first | ((with_reducible apply J22 cGo_ok tab_ok); (· rfl)) | ((with_reducible apply J23 fol cGo_ok tab_ok); (· rfl)) | with_reducible apply J24); (· exact Vm.b78); (try kernel_rfl); (try exact Vm.b21)) | fail)
    with_reducible apply At.itNormal .ready
    · rfl
    · rfl
    · intro h; cases h
    apply haft
    intro w1 M1 D1 hA
    dsimp only
    try rw [hl]
    repeat' (first | with_reducible (first | apply J1 | apply J3 | apply J4 | apply J5 | apply J6 | apply J7 | apply J8 | apply J9 | apply J10 | apply J11 | apply J12 | apply J13 | apply J14 | apply J15 | apply J16 | apply J17 | apply J18 | apply J19 | apply J20 | refine J2 ?_) | ((with_reducible apply J21); (· rfl)) | ((with_reducible intro hif); first | (focus (cases hif; done)) | (simp only [JH] at hif; try (exfalso; omega)) | (try (exfalso; omega))) | ((first | ((with_reducible apply J22 cGo_ok tab_ok); (· rfl)) | ((with_reducible apply J23 fol cGo_ok tab_ok); (· rfl)) | with_reducible apply J24); (· exact Vm.b78); (try kernel_rfl); (try exact Vm.b21)) | fail)
    apply At.endsPick [0, 1, 2, 3, 4, 5, 6, 7, 8, 9, 17] tab_ok (fn := Try.f17) (rs := [.cell 4 4, .cell 5 46]) hA hro (Nat.le_of_ble_eq_true rfl) rfl
    · exact Vm.b12
    · exact Vm.b14
    · rfl
    · rfl
    · rfl
    · exact Vm.b31
    · rfl
    · exact Vm.b59
    · exact Vm.b9
    · exact fun β => rfl
    · exact Vm.b59
end Go.Proofs.Ytjliakjbdcplcaa.Vm
end

section
namespace Go.Proofs.Ytjliakjbdcplcaa.Vm
open Go.RowKit
attribute [local push_cast] runR opG gtmp gval gus opX tmpsOf tm tmO tmP restr look look2 tab tys zs ets eqB eqBL allB numOf ieq Int.cast_ofNat_Int Int.ofNat_zero beq_true beq_false frameOf ev evL ofV opV loadV noW pushF wrsL setH allBorn allGone HB.born HB.isGone HB.val SV.plain dstOk hp nav fitsT SV.size sizeL SV.isAgg TK.size TK.agg bin binE binN binI arN arI cmpN cmpI keq kn narrow callV storeV setp fillV buildV buildSliceV makeV sliceV appendV copyV List.isEmpty_nil srcV evO asN ite_t ite_f ite_bool ite_int ite_nat maxV v_beq v_ble v_blt cond_true cond_false List.getElem?_cons_zero List.getElem?_cons_succ List.getD_cons_zero List.getD_cons_succ List.getD_nil List.length_cons List.length_nil List.take_succ_cons List.take_zero List.set_cons_zero List.set_cons_succ List.cons_append List.nil_append List.append_assoc List.replicate_succ List.replicate_zero Nat.zero_add Nat.add_zero decide_true decide_false Bool.true_and Bool.and_true Bool.false_and Bool.and_false Bool.true_or Bool.or_true Bool.false_or Bool.or_false beq_self_eq_true Bool.or_self Nat.lt_irrefl Nat.not_lt_zero Nat.le_refl Option.getD_some Option.getD_none BEq.rfl Bool.not_true Bool.not_false Bool.cond_true_left Bool.cond_false_right prS sndsS i64S nav_ins nav_ins0 nav_ins1 nav_ins2 nav_ins3 nav_ins4 nav_snd nav_snd0 nav_snd1 nav_snd2 isIns_insS insOf_insS isSnd_sndS sndOf_sndS isI_int isI_nat iOf
set_option linter.unusedVariables false
set_option linter.unusedSimpArgs false
set_option maxRecDepth 100000
set_option maxHeartbeats 4000000
def cRu : FuncId → Option Spec := look2 [(46, rN), (47, sRRight), (49, eState)]
theorem cRu_ok : ∀ f S, cRu f = some S → CallOk Try.prog f S := allOk_spec ⟨rN_ok, sRRight_ok, eState_ok, trivial⟩
theorem used_lit (u : Nat) (w : Bool) : LitOk Try.prog 19 [.ptr 1 []] [.gone, rB 2 3 4 5 u w, .gone, .gone, .gone, .gone] (.nat .i64 u) [.gone, rB 2 3 4 5 u w, .gone, .gone, .gone, .gone] := by
  refine litOkM (fn := Try.f19) 6 9 0 rfl rfl rfl rfl rfl (by simp only [StableL, Stable, hp, i64S, prS, insS, sndsS, sndS, stS, evS, macS, mB, cB, sB, eB, prO, prR, pbB, fbB, rB, rvS, HB.stable]; simp [HB.born, rB, rvS]) rfl fun w0 M E hro => ?_
  repeat' (first | with_reducible (first | apply J1 | apply J3 | apply J4 | apply J5 | apply J6 | apply J7 | apply J8 | apply J9 | apply J10 | apply J11 | apply J12 | apply J13 | apply J14 | apply J15 | apply J16 | apply J17 | apply J18 | apply J19 | apply J20 | refine J2 ?_) | ((with_reducible apply J21); (· rfl)) | ((with_reducible intro hif); first | (focus (cases hif; done)) | (simp only [JH] at hif; try (exfalso; omega)) | (try (exfalso; omega))) | ((first | ((with_reducible apply J22 cRu_ok tab_ok); (· rfl)) | ((with_reducible apply J23 fol cRu_ok tab_ok); (· rfl)) | with_reducible apply J24); (· (simp only [push_cast, ↓JP, Nat.reduceAdd, Nat.reduceEqDiff, Nat.reduceLT, Nat.reduceMul, Nat.reduceLeDiff, reduceCtorEq, reduceIte, ↓JK, cRu, rB, rvS, rN, nodupN, memN, inR, inN]; rfl)); (try kernel_rfl); (try exact Vm.b21)) | fail)
  apply At.endsPick [0, 1, 2, 3, 4, 5] tab_ok (fn := Try.f19) (rs := [.tmp 2]) Anc.refl hro (Nat.le_of_ble_eq_true rfl) rfl
  · exact Vm.b12
  · exact Vm.b14
  · rfl
  · rfl
  · rfl
  · exact Vm.b31
  · rfl
  · exact Vm.b59
  · exact Vm.b9
  · exact fun β => rfl
  · exact Vm.b59
theorem rstate_lit (P : List Ins) (s : Sta) (v : Evi) (x : Ins) (u : Nat) (w : Bool) (hc : s.cells.length ≤ 1000000) (hs : s.sends.length ≤ 1000000) : LitOk Try.prog 18 [.ptr 1 []] [.gone, rB 2 7 8 9 u w, eB 3 6 P.length, mB s v x 4 5, cB s, sB s, prO P, .gone, .gone, .gone] (stS s 10 11) [.gone, rB 2 7 8 9 u w, eB 3 6 P.length, mB s v x 4 5, cB s, sB s, prO P, .gone, .gone, .gone, cB s, sB s] := by
  refine litOkM (fn := Try.f18) 10 11 0 rfl rfl rfl rfl rfl (by simp only [StableL, Stable, hp, i64S, prS, insS, sndsS, sndS, stS, evS, macS, mB, cB, sB, eB, prO, prR, pbB, fbB, rB, rvS, HB.stable]; simp [HB.born, rB, rvS, eB, mB, cB, sB, prO]) rfl fun w0 M E hro => ?_
  repeat' (first | with_reducible (first | apply J1 | apply J3 | apply J4 | apply J5 | apply J6 | apply J7 | apply J8 | apply J9 | apply J10 | apply J11 | apply J12 | apply J13 | apply J14 | apply J15 | apply J16 | apply J17 | apply J18 | apply J19 | apply J20 | refine J2 ?_) | ((with_reducible apply J21); (· rfl)) | ((with_reducible intro hif); first | (focus (cases hif; done)) | (simp only [JH] at hif; try (exfalso; omega)) | (try (exfalso; omega))) | ((first | ((with_reducible apply J22 cRu_ok tab_ok); (· rfl)) | ((with_reducible apply J23 fol cRu_ok tab_ok); (· rfl)) | with_reducible apply J24); (· (simp only [push_cast, ↓JP, Nat.reduceAdd, Nat.reduceEqDiff, Nat.reduceLT, Nat.reduceMul, Nat.reduceLeDiff, reduceCtorEq, reduceIte, ↓JK, cRu, JM, JE, rB, rvS, eB, prO, rN, engP, prP, macP, eState, nodupN, memN, inR, inN]; rfl)); (try kernel_rfl); (try exact Vm.b21)) | fail)
  apply At.endsPick [0, 1, 2, 3, 4, 5, 6, 7, 8, 9, 11, 12] tab_ok (fn := Try.f18) (rs := [.cell 2 58]) Anc.refl hro (Nat.le_of_ble_eq_true rfl) rfl
  · exact Vm.b12
  · exact Vm.b14
  · rfl
  · rfl
  · rfl
  · exact Vm.b31
  · rfl
  · exact Vm.b59
  · exact Vm.b9
  · exact fun β => rfl
  · exact Vm.b59
end Go.Proofs.Ytjliakjbdcplcaa.Vm
end

section
namespace Go.Proofs.Ytjliakjbdcplcaa.Vm
open Go.RowKit
attribute [local push_cast] runR opG gtmp gval gus opX tmpsOf tm tmO tmP restr look look2 tab tys zs ets eqB eqBL allB numOf ieq Int.cast_ofNat_Int Int.ofNat_zero beq_true beq_false frameOf ev evL ofV opV loadV noW pushF wrsL setH allBorn allGone HB.born HB.isGone HB.val SV.plain dstOk hp nav fitsT SV.size sizeL SV.isAgg TK.size TK.agg bin binE binN binI arN arI cmpN cmpI keq kn narrow callV storeV setp fillV buildV buildSliceV makeV sliceV appendV copyV List.isEmpty_nil srcV evO asN ite_t ite_f ite_bool ite_int ite_nat maxV v_beq v_ble v_blt cond_true cond_false List.getElem?_cons_zero List.getElem?_cons_succ List.getD_cons_zero List.getD_cons_succ List.getD_nil List.length_cons List.length_nil List.take_succ_cons List.take_zero List.set_cons_zero List.set_cons_succ List.cons_append List.nil_append List.append_assoc List.replicate_succ List.replicate_zero Nat.zero_add Nat.add_zero decide_true decide_false Bool.true_and Bool.and_true Bool.false_and Bool.and_false Bool.true_or Bool.or_true Bool.false_or Bool.or_false beq_self_eq_true Bool.or_self Nat.lt_irrefl Nat.not_lt_zero Nat.le_refl Option.getD_some Option.getD_none BEq.rfl Bool.not_true Bool.not_false Bool.cond_true_left Bool.cond_false_right prS sndsS i64S nav_ins nav_ins0 nav_ins1 nav_ins2 nav_ins3 nav_ins4 nav_snd nav_snd0 nav_snd1 nav_snd2 isIns_insS insOf_insS isSnd_sndS sndOf_sndS isI_int isI_nat iOf
set_option linter.unusedVariables false
set_option linter.unusedSimpArgs false
set_option maxRecDepth 100000
set_option maxHeartbeats 4000000
def fsS (s : Sta) (j : Nat) : SV := .agg [.int .i64 s.at_, .bool s.ended, .arr 8 1 (fun q => .int .i64 (s.regs q)), .sl j j [] 1 0 s.cells.length none, .int .i64 s.draws, .sl 0 0 [] 0 0 0 (some 0)]
def clA (i n : Nat) : HB := .own 35 (.sl i i [] 5 0 n none) true
def clB (v : Evi) : HB := .own 30 (evS v) true
def clC (s : Sta) (j : Nat) : HB := .own 58 (fsS s j) true
def cB4 : FuncId → Option Spec := look2 [(45, sOnG)]
theorem cB4_ok : ∀ f S, cB4 f = some S → CallOk Try.prog f S := allOk_spec ⟨sOnG_ok, trivial⟩
theorem beg_good (P : List Ins) (v : Evi) (s : Sta) (hs : s.sends = []) (hP : ∀ x ∈ P, x.ok) (hn : P.length ≤ 1000000) (hc : s.cells.length ≤ 1000000) (hE : openE P v s = 0) : LitOk Try.prog 44 [.ptr 1 [], .ptr 2 [], .ptr 3 []] [.gone, .ro (.sl 4 4 [] 5 0 P.length none), .ro (evS v), .ro (fsS s 5), prR P, .ro (.arr s.cells.length 1 (i64S s.cells))]
    (.tup [.ptr 6 [], .int .i64 0]) [.gone, .gone, .gone, .gone, .gone, .gone, eB 7 10 P.length, mB s v Ins0 8 9, cB s, sB s, prO P] := by
  obtain ⟨a0, e0, rg, cs, d, n0⟩ := s
  dsimp only at hs hc
  subst hs
  refine litOkM (fn := Try.f44) 6 11 0 rfl rfl rfl rfl rfl (by simp only [StableL, Stable, hp, i64S, prS, insS, sndsS, sndS, stS, evS, macS, mB, cB, sB, eB, prO, prR, pbB, fbB, rB, rvS, clA, clB, clC, fsS, HB.stable]; simp [HB.born]) rfl fun w0 M E hro => ?_
  repeat' (first | with_reducible (first | apply J1 | apply J3 | apply J4 | apply J5 | apply J6 | apply J7 | apply J8 | apply J9 | apply J10 | apply J11 | apply J12 | apply J13 | apply J14 | apply J15 | apply J16 | apply J17 | apply J18 | apply J19 | apply J20 | refine J2 ?_) | ((with_reducible apply J21); (· rfl)) | ((with_reducible intro hif); first | (focus (cases hif; done)) | (simp only [JH] at hif; try (exfalso; omega)) | (try (exfalso; omega))) | ((first | ((with_reducible apply J22 cB4_ok tab_ok); (· rfl)) | ((with_reducible apply J23 fol cB4_ok tab_ok); (· rfl)) | with_reducible apply J24); (· (simp only [push_cast, ↓JP, Nat.reduceAdd, Nat.reduceEqDiff, Nat.reduceLT, Nat.reduceMul, Nat.reduceLeDiff, reduceCtorEq, reduceIte, ↓JK, JM, JE, JB, cB4, fsS, prR, sOnG, inR, inN, hE]; rfl)); (try kernel_rfl); (try (focus (first | exact True.intro | ((try simp only [JS, implies_true, forall_const, shaped, shapedL, kndOf, inR, inN]); (first | first | omega | exact ⟨hP, hn, hc⟩ | (repeat' (first | assumption | exact True.intro | omega | apply And.intro))); done))))) | fail)
  apply At.endsPick [0, 1, 2, 3, 4, 5, 6, 7, 8, 9, 10] tab_ok (fn := Try.f44) (rs := [.tmp 3, .tmp 4]) Anc.refl hro (Nat.le_of_ble_eq_true rfl) rfl
  · exact Vm.b12
  · exact Vm.b14
  · rfl
  · rfl
  · rfl
  · exact Vm.b31
  · rfl
  · exact Vm.b72
  · exact Vm.b9
  · exact fun β => rfl
  · exact Vm.b72
def clP (h : HM) (a b c : Nat) : Option (List Ins × Evi × Sta × Nat × Nat × Prop) := match h a with
  | .own ta (.sl z i [] 5 0 n none) true => match h b with
    | .own tb (.agg [.int .u64 e0, .int .i64 e1, .int .i64 e2, .int .i64 e3, .int .i64 e4]) true => match h c with
      | .own tc (.agg [.int .i64 s0, .bool s1, .arr 8 1 rg, .sl z2 j [] 1 0 nc none, .int .i64 s4, .sl 0 0 [] 0 0 0 (some 0)]) true => match prP h i, h j with
        | some (n', P, ok2), .own tj (.arr nj 1 cf) false => bif Nat.beq z i && Nat.beq n n' && Nat.beq z2 j && Nat.beq nc nj && Nat.beq ta 35 && Nat.beq tb 30 && Nat.beq tc 58 && Nat.beq tj 2 then
            some (P, ⟨e0, e1, e2, e3, e4⟩, ⟨s0, s1, fun q => iOf (rg q), ls iOf nj cf, s4, []⟩, i, j, ok2 ∧ (∀ q, q < 8 → isI .i64 (rg q) = true) ∧ ∀ q, q < nj → isI .i64 (cf q) = true) else none
        | _, _ => none
      | _ => none
    | _ => none
  | _ => none
section
variable {ρ : Nat → Nat} {h h' : HM} {a b c i j x y : Nat} {s : Sta} {v : Evi} {P : List Ins} {ok : Prop}
theorem clP_val (hp : clP h a b c = some (P, v, s, i, j, ok)) : s.sends = [] ∧ ∃ ok2 rg cf, ok = (ok2 ∧ (∀ q, q < 8 → isI .i64 (rg q) = true) ∧ ∀ q, q < s.cells.length → isI .i64 (cf q) = true) ∧ prP h i = some (P.length, P, ok2) ∧ h a = clA i P.length ∧ h b = clB v ∧ h c = .own 58 (.agg [.int .i64 s.at_, .bool s.ended, .arr 8 1 rg, .sl j j [] 1 0 s.cells.length none, .int .i64 s.draws, .sl 0 0 [] 0 0 0 (some 0)]) true ∧ h j = .own 2 (.arr s.cells.length 1 cf) false ∧ (∀ q, s.regs q = iOf (rg q)) ∧ s.cells = ls iOf s.cells.length cf := by
  unfold clP at hp
  split at hp
  · rename_i ta z i n ha
    split at hp
    · rename_i tb e0 e1 e2 e3 e4 hb
      split at hp
      · rename_i tc s0 s1 rg z2 j nc s4 hc
        split at hp
        · rename_i n' P ok2 tj nj cf hpp hj
          obtain ⟨hbb, hs⟩ := bif_some hp
          simp only [Option.some.injEq, Prod.mk.injEq] at hs
          obtain ⟨rfl, rfl, rfl, rfl, rfl, rfl⟩ := hs
          simp only [Bool.and_eq_true] at hbb
          obtain ⟨⟨⟨⟨⟨⟨⟨b1, b2⟩, b3⟩, b4⟩, b5⟩, b6⟩, b7⟩, b8⟩ := hbb
          have b1 := Nat.eq_of_beq_eq_true b1
          have b2 := Nat.eq_of_beq_eq_true b2
          have b3 := Nat.eq_of_beq_eq_true b3
          have b4 := Nat.eq_of_beq_eq_true b4
          have b5 := Nat.eq_of_beq_eq_true b5
          have b6 := Nat.eq_of_beq_eq_true b6
          have b7 := Nat.eq_of_beq_eq_true b7
          have b8 := Nat.eq_of_beq_eq_true b8
          subst b1 b2 b3 b4 b5 b6 b7 b8
          have hl := prP_len hpp
          subst hl
          refine ⟨rfl, ok2, rg, cf, ?_, hpp, ha, hb, ?_, ?_, fun _ => rfl, ?_⟩
          · dsimp only; rw [ls_length]
          · dsimp only; rw [ls_length]; exact hc
          · dsimp only; rw [ls_length]; exact hj
          · dsimp only; rw [ls_length]
        · cases hp
      · cases hp
    · cases hp
  · cases hp
theorem bun_clC {rg : Nat → SV} (hc : h c = .own 58 (.agg [.int .i64 s.at_, .bool s.ended, .arr 8 1 rg, .sl j j [] 1 0 s.cells.length none, .int .i64 s.draws, .sl 0 0 [] 0 0 0 (some 0)]) true) (hr : ∀ q, q < 8 → isI .i64 (rg q) = true) (hq : ∀ q, s.regs q = iOf (rg q)) (ec : h' c = h c) (h0 : ρ 0 = 0) (hx : ρ x = j) : Bun1 ρ (h' c) (.ro (fsS s x)) ∧ Bun1 ρ (h' c) (clC s x) := by
  have hcl : ∀ β, (SV.agg [.int .i64 s.at_, .bool s.ended, .arr 8 1 rg, .sl j j [] 1 0 s.cells.length none, .int .i64 s.draws, .sl 0 0 [] 0 0 0 (some 0)]).cl β = ((fsS s x).ren ρ).cl β := fun β => by
    have h8 : (SV.arr 8 1 rg).cl β = (SV.arr 8 1 fun q => .int .i64 (s.regs q)).cl β := arrCl fun q hq' => by rw [isI_cl (hr q hq'), hq]; rfl
    simp only [fsS, SV.ren, renL, hx, h0, cl_agg, clL_cons, clL_nil, h8]
  constructor
  · exact Fit.ro (by rw [ec, hc]; rfl) hcl (fun n k f e => by cases e)
  · show Less (h' c) (.own 58 ((fsS s x).ren ρ) true)
    rw [ec, hc]
    exact .val hcl (fun n k f e => by cases e) (fun n k f e => by cases e)
theorem bun_clJ {cf : Nat → SV} (hj : h j = .own 2 (.arr s.cells.length 1 cf) false) (hr : ∀ q, q < s.cells.length → isI .i64 (cf q) = true) (hq : s.cells = ls iOf s.cells.length cf) (ej : h' j = h j) : Bun1 ρ (h' j) (.ro (.arr s.cells.length 1 (i64S s.cells))) := by
  refine Fit.ro (u := .arr s.cells.length 1 cf) (by rw [ej, hj]; rfl) (fun β => arrCl fun q hlt => ?_) (fun n k f e => by injection e with e1 e2 e3; subst e1 e2; exact ⟨_, rfl⟩)
  rw [isI_cl (hr q hlt)]
  unfold i64S
  rw [hq, ls_getD hlt]; rfl
end
end Go.Proofs.Ytjliakjbdcplcaa.Vm
end

section
namespace Go.Proofs.Ytjliakjbdcplcaa.Vm
open Go.RowKit
attribute [local push_cast] runR opG gtmp gval gus opX tmpsOf tm tmO tmP restr look look2 tab tys zs ets eqB eqBL allB numOf ieq Int.cast_ofNat_Int Int.ofNat_zero beq_true beq_false frameOf ev evL ofV opV loadV noW pushF wrsL setH allBorn allGone HB.born HB.isGone HB.val SV.plain dstOk hp nav fitsT SV.size sizeL SV.isAgg TK.size TK.agg bin binE binN binI arN arI cmpN cmpI keq kn narrow callV storeV setp fillV buildV buildSliceV makeV sliceV appendV copyV List.isEmpty_nil srcV evO asN ite_t ite_f ite_bool ite_int ite_nat maxV v_beq v_ble v_blt cond_true cond_false List.getElem?_cons_zero List.getElem?_cons_succ List.getD_cons_zero List.getD_cons_succ List.getD_nil List.length_cons List.length_nil List.take_succ_cons List.take_zero List.set_cons_zero List.set_cons_succ List.cons_append List.nil_append List.append_assoc List.replicate_succ List.replicate_zero Nat.zero_add Nat.add_zero decide_true decide_false Bool.true_and Bool.and_true Bool.false_and Bool.and_false Bool.true_or Bool.or_true Bool.false_or Bool.or_false beq_self_eq_true Bool.or_self Nat.lt_irrefl Nat.not_lt_zero Nat.le_refl Option.getD_some Option.getD_none BEq.rfl Bool.not_true Bool.not_false Bool.cond_true_left Bool.cond_false_right prS sndsS i64S nav_ins nav_ins0 nav_ins1 nav_ins2 nav_ins3 nav_ins4 nav_snd nav_snd0 nav_snd1 nav_snd2 isIns_insS insOf_insS isSnd_sndS sndOf_sndS isI_int isI_nat iOf
set_option linter.unusedVariables false
set_option linter.unusedSimpArgs false
set_option maxRecDepth 100000
set_option maxHeartbeats 4000000
theorem evR_st {h : HM} {v : Evi} : (HB.ro (evS v)).stable h := by simp [HB.stable, evS, Stable, StableL]
theorem fsR_st {h : HM} {s : Sta} {j : Nat} (h0 : (h 0).born = true) (hj : (h j).born = true) : (HB.ro (fsS s j)).stable h := by simp [HB.stable, fsS, Stable, StableL, h0, hj]
theorem clA_st {h : HM} {i n : Nat} (hi : (h i).born = true) : (clA i n).stable h := ⟨hi, hi⟩
theorem clB_st {h : HM} {v : Evi} : (clB v).stable h := by simp [clB, HB.stable, evS, Stable, StableL]
theorem clC_st {h : HM} {s : Sta} {j : Nat} (h0 : (h 0).born = true) (hj : (h j).born = true) : (clC s j).stable h := by simp [clC, HB.stable, fsS, Stable, StableL, h0, hj]
def sBgG : Spec := fun args h m => match args with
  | [.ptr a [], .ptr b [], .ptr c []] => match clP h a b c with
    | some (P, v, s, i, j, ok) => bif nodupN [0, a, b, c, i, j] then some (ok ∧ (∀ x ∈ P, x.ok) ∧ P.length ≤ 1000000 ∧ s.cells.length ≤ 1000000 ∧ openE P v s = 0, .tup [.ptr m [], .int .i64 0], [a, b, c, i, j], [(m, eB (m + 1) (m + 4) P.length), (m + 1, mB s v Ins0 (m + 2) (m + 3)), (m + 2, cB s), (m + 3, sB s), (m + 4, prO P)]) else none
    | none => none
  | _ => none
theorem sBgG_ok : CallOk Try.prog 44 sBgG := by
  refine ⟨named_spec (by kernel_rfl), fun args h m c v rd wr hs hm hc w0 M β h' w R hrd hwr hst => ?_⟩
  unfold sBgG at hs
  split at hs
  · rename_i a b c
    split at hs
    · rename_i P v s i j ok hcp
      obtain ⟨hnd, hs⟩ := bif_some hs
      simp only [Option.some.injEq, Prod.mk.injEq] at hs
      obtain ⟨rfl, rfl, rfl, rfl⟩ := hs
      obtain ⟨hs0, ok2, rg, cf, rfl, hpp, ha, hb, hcc, hj, hq, hql⟩ := clP_val hcp
      obtain ⟨⟨hok2, hrg, hcf⟩, hP, hn, hcl, hE⟩ := hc
      have ea := hrd a (by simp)
      have eb := hrd b (by simp)
      have ec := hrd c (by simp)
      have ei := hrd i (by simp)
      have ej := hrd j (by simp)
      exact bun_ok (h := h) (m := m) [0, a, b, c, i, j] (beg_good P v s hs0 hP hn hcl hE) R rfl (by simp) rfl rfl hnd
        ⟨Fit.gone (by rw [R.nil0]; rfl), Fit.ro (u := .sl i i [] 5 0 P.length none) (by rw [ea, ha]; rfl) (fun β => rfl) (fun n k f e => by cases e), Fit.ro (u := evS v) (by rw [eb, hb]; rfl) (fun β => rfl) (fun n k f e => by cases e), (bun_clC hcc hrg hq ec rfl rfl).1, bun_pr hpp hok2 ei, bun_clJ hj hcf hql ej, trivial⟩ hm
        (fun p hp => by
          simp only [newB, List.drop, List.length_cons, List.length_nil, List.mem_cons, List.not_mem_nil, or_false] at hp
          rcases hp with rfl | rfl | rfl | rfl | rfl
          · exact hwr (m, eB (m + 1) (m + 4) P.length) (by simp)
          · exact hwr (m + 1, mB s v Ins0 (m + 2) (m + 3)) (by simp)
          · exact hwr (m + 2, cB s) (by simp)
          · exact hwr (m + 3, sB s) (by simp)
          · exact hwr (m + 4, prO P) (by simp)) (by simp) rfl
        ⟨trivial, ⟨rfl, rfl⟩, evR_st, fsR_st rfl rfl, prR_st, celR_st, trivial⟩ ⟨rfl, rfl, rfl, trivial⟩
        ⟨trivial, ⟨rfl, rfl⟩, evR_st, fsR_st rfl rfl, prR_st, celR_st, eB_st rfl rfl, mB_st rfl rfl, cB_st, sB_st, prO_st, trivial⟩ (⟨rfl, trivial, trivial⟩) rfl (by simp [SV.ren, renL, rhoL]) (by show [(m, (eB 7 10 _).ren _), (m + 1, (mB s v Ins0 8 9).ren _), (m + 2, (cB s).ren _), (m + 3, (sB s).ren _), (m + 4, (prO P).ren _)] = _; rw [eB_ren, mB_ren, cB_ren, sB_ren, prO_ren]; simp [rhoL])
    · cases hs
  · cases hs
def cNw : FuncId → Option Spec := look2 [(43, sClI), (24, sBegin), (44, sBgG)]
theorem cNw_ok : ∀ f S, cNw f = some S → CallOk Try.prog f S := allOk_spec ⟨sClI_ok, sBegin_ok, sBgG_ok, trivial⟩
theorem new_good (P : List Ins) (v : Evi) (t s q o y d : Int) (cs : List Int) (p1 p2 : Nat) (hP : ∀ x ∈ P, x.ok) (hn : P.length ≤ 1000000) (hc : cs.length ≤ 1000000) (hE : openE P v (begS y t s cs d) = 0) : LitOk Try.prog 16 [.sl 1 2 [] 5 0 P.length (some p1), .agg [.int .u64 v.seed, .int .i64 v.process, .int .i64 v.ports, .int .i64 v.look, .int .i64 v.now], .agg [.agg [.int .i64 t, .int .i64 s, .int .i64 q], .int .i64 o, .int .i64 y], .sl 3 4 [] 1 0 cs.length (some p2), .int .i64 d]
    [.gone, .gone, .ro (.arr P.length 5 (prS P)), .gone, .ro (.arr cs.length 1 (i64S cs))]
    (.tup [.ptr 5 [], .int .i64 0]) [.gone, .gone, .gone, .gone, .gone, rB 6 11 12 13 0 false, eB 7 10 P.length, mB (begS y t s cs d) v Ins0 8 9, cB (begS y t s cs d), sB (begS y t s cs d), prO P, clA 14 P.length, clB v, clC (begS y t s cs d) 15, prO P, cB (begS y t s cs d)] := by
  refine litOkM (fn := Try.f16) 5 36 0 rfl rfl rfl rfl rfl (by simp only [StableL, Stable, hp, i64S, prS, insS, sndsS, sndS, stS, evS, macS, mB, cB, sB, eB, prO, prR, pbB, fbB, rB, rvS, clA, clB, clC, fsS, HB.stable]; simp [HB.born]) rfl fun w0 M E hro => ?_
  repeat' (first | with_reducible (first | apply J1 | apply J3 | apply J4 | apply J5 | apply J6 | apply J7 | apply J8 | apply J9 | apply J10 | apply J11 | apply J12 | apply J13 | apply J14 | apply J15 | apply J16 | apply J17 | apply J18 | apply J19 | apply J20 | refine J2 ?_) | ((with_reducible apply J21); (· rfl)) | ((with_reducible intro hif); first | (focus (cases hif; done)) | (simp only [JH] at hif; try (exfalso; omega)) | (try (exfalso; omega))) | ((first | ((with_reducible apply J22 cNw_ok tab_ok); (· rfl)) | ((with_reducible apply J23 fol cNw_ok tab_ok); (· rfl)) | with_reducible apply J24); (· (simp only [push_cast, ↓JP, Nat.reduceAdd, Nat.reduceEqDiff, Nat.reduceLT, Nat.reduceMul, Nat.reduceLeDiff, reduceCtorEq, reduceIte, ↓JK, cNw, sBgG, JE, JB, sClI, sBegin, clP, prP, nodupN, memN, inR, inN, hE]; rfl)); (try kernel_rfl); (try (focus (first | exact True.intro | ((try simp only [JS, implies_true, forall_const, shaped, shapedL, kndOf, inR, inN]); (first | first | omega | exact ⟨fun q _ => rfl, hn⟩ | exact ⟨hP, hn, hc⟩ | exact ⟨hP, hn, hc, hE⟩ | (repeat' (first | assumption | exact True.intro | omega | apply And.intro))); done))))) | fail)
  apply At.endsPick [0, 1, 2, 3, 4, 16, 11, 12, 13, 14, 15, 9, 5, 10, 7, 8] tab_ok (fn := Try.f16) (rs := [.tmp 10, .tmp 11]) Anc.refl hro (Nat.le_of_ble_eq_true rfl) rfl
  · exact Vm.b12
  · exact Vm.b14
  · rfl
  · rfl
  · rfl
  · exact Vm.b31
  · rfl
  · exact Vm.b72
  · exact Vm.b9
  · exact fun β => rfl
  · exact Vm.b72
end Go.Proofs.Ytjliakjbdcplcaa.Vm
end

section
namespace Go.Proofs.Ytjliakjbdcplcaa.Vm
open Go.RowKit
attribute [local push_cast] runR opG gtmp gval gus opX tmpsOf tm tmO tmP restr look look2 tab tys zs ets eqB eqBL allB numOf ieq Int.cast_ofNat_Int Int.ofNat_zero beq_true beq_false frameOf ev evL ofV opV loadV noW pushF wrsL setH allBorn allGone HB.born HB.isGone HB.val SV.plain dstOk hp nav fitsT SV.size sizeL SV.isAgg TK.size TK.agg bin binE binN binI arN arI cmpN cmpI keq kn narrow callV storeV setp fillV buildV buildSliceV makeV sliceV appendV copyV List.isEmpty_nil srcV evO asN ite_t ite_f ite_bool ite_int ite_nat maxV v_beq v_ble v_blt cond_true cond_false List.getElem?_cons_zero List.getElem?_cons_succ List.getD_cons_zero List.getD_cons_succ List.getD_nil List.length_cons List.length_nil List.take_succ_cons List.take_zero List.set_cons_zero List.set_cons_succ List.cons_append List.nil_append List.append_assoc List.replicate_succ List.replicate_zero Nat.zero_add Nat.add_zero decide_true decide_false Bool.true_and Bool.and_true Bool.false_and Bool.and_false Bool.true_or Bool.or_true Bool.false_or Bool.or_false beq_self_eq_true Bool.or_self Nat.lt_irrefl Nat.not_lt_zero Nat.le_refl Option.getD_some Option.getD_none BEq.rfl Bool.not_true Bool.not_false Bool.cond_true_left Bool.cond_false_right prS sndsS i64S nav_ins nav_ins0 nav_ins1 nav_ins2 nav_ins3 nav_ins4 nav_snd nav_snd0 nav_snd1 nav_snd2 isIns_insS insOf_insS isSnd_sndS sndOf_sndS isI_int isI_nat iOf
set_option linter.unusedVariables false
set_option linter.unusedSimpArgs false
set_option maxRecDepth 100000
set_option maxHeartbeats 4000000
theorem goT_lit (P : List Ins) (s : Sta) (v : Evi) (x0 : Ins) (u : Nat) (f : Int) (hP : PG P) (V : VOk v) (hG : SG P s) (hu : u ≤ 4611686018427387904) (hf0 : 0 ≤ f) (hf1 : f ≤ 4096) (r : RR) (hr : runA P v f.toNat s x0 [] 0 = r) : LitOk Try.prog 17 [.ptr 1 [], .int .i64 f] [.gone, rB 2 7 8 9 u true, eB 3 6 P.length, mB s v x0 4 5, cB s, sB s, prO P, .gone, .gone, .gone]
    (.tup [.bool (decide (r.bad = 0)), .int .i64 (if r.bad = 190 then 0 else r.bad)]) [.gone, rB 2 7 8 9 u true, eB 3 6 P.length, mB r.s v r.x 4 10, cB r.s, .gone, prO P, .gone, .gone, .gone, sB r.s] := by
  have hrr : rrE f = 0 := by unfold rrE; rw [if_neg (by omega)]
  refine litOkM (fn := Try.f17) 10 44 0 rfl rfl rfl rfl rfl (by simp only [StableL, Stable, hp, i64S, prS, insS, sndsS, sndS, stS, evS, macS, mB, cB, sB, eB, prO, prR, pbB, fbB, rB, rvS, HB.stable]; simp [HB.born, rB, rvS, eB, mB, cB, sB, prO]) rfl fun w0 M E hro => ?_
  repeat' (first | with_reducible (first | apply J1 | apply J3 | apply J4 | apply J5 | apply J6 | apply J7 | apply J8 | apply J9 | apply J10 | apply J11 | apply J12 | apply J13 | apply J14 | apply J15 | apply J16 | apply J17 | apply J18 | apply J19 | apply J20 | refine J2 ?_) | ((with_reducible apply J21); (· rfl)) | ((with_reducible intro hif); first | (focus (cases hif; done)) | (simp only [JH] at hif; try (exfalso; omega)) | (try (exfalso; omega))) | ((first | ((with_reducible apply J22 cGo_ok tab_ok); (· rfl)) | ((with_reducible apply J23 fol cGo_ok tab_ok); (· rfl)) | with_reducible apply J24); (· exact Vm.b73); (try kernel_rfl); (try exact Vm.b21)) | fail)
  with_reducible apply WF.range (fn' := Try.f73) 28
  · exact Vm.b48
  · exact Vm.b14
  · rfl
  · rfl
  · rfl
  · rfl
  · rfl
  · rfl
  · rfl
  intro E1 rec tmps after hE1 hrec hcf haft
  repeat' (first | with_reducible (first | apply J1 | apply J3 | apply J4 | apply J5 | apply J6 | apply J7 | apply J8 | apply J9 | apply J10 | apply J11 | apply J12 | apply J13 | apply J14 | apply J15 | apply J16 | apply J17 | apply J18 | apply J19 | apply J20 | refine J2 ?_) | ((with_reducible apply J21); (· rfl)) | ((with_reducible intro hif); first | (focus (cases hif; done)) | (simp only [JH] at hif; try (exfalso; omega)) | (try (exfalso; omega))) | ((first | ((with_reducible apply J22 cGo_ok tab_ok); (· rfl)) | ((with_reducible apply J23 fol cGo_ok tab_ok); (· rfl)) | with_reducible apply J24); (· exact Vm.b62); (try kernel_rfl); (try exact Vm.b21)) | fail)
  refine At.pick (L2 := [.gone, rB 2 7 8 9 u true, eB 3 6 P.length, mB s v x0 4 17, cB s, .gone, prO P, .gone, .gone, .gone, .own 52 (.ptr 1 []) true, .own 4 (.bool false) true, .own 46 (.nat .i64 0) true, pbB 2, fbB f, .raw (.deferred (some [])), .raw (.loop (rec .ready none)), sB s]) (φ2 := [(0, .yl 16), (1, .ptr 13 []), (2, .ptr 14 []), (4, .nat .i64 0)]) [0, 1, 2, 3, 4, 5, 6, 7, 8, 9, 10, 11, 12, 13, 14, 15, 16, 5] rfl rfl rfl ?_ rfl ?_ ?_ ?_ rfl ?_
  · exact Vm.b31
  · exact Vm.b59
  · exact Vm.b51
  · exact Vm.b59
  refine WF.loopAt (fun (z : RS) => RInv P v f r z) (fun (z : RS) => [(0, .yl 16), (1, .ptr 13 []), (2, .ptr 14 []), (4, .nat .i64 z.k)]) (fun (z : RS) => [.gone, rB 2 7 8 9 u true, eB 3 6 P.length, mB z.s v z.x 4 17, cB z.s, .gone, prO P, .gone, .gone, .gone, .own 52 (.ptr 1 []) true, .own 4 (.bool false) true, .own 46 (.nat .i64 0) true, pbB 2, fbB f, .raw (.deferred (some [])), .raw (.loop (rec .ready none)), sB z.s]) (fun (z : RS) => f.toNat - z.k) ⟨0, s, x0, [], 0⟩ ⟨Nat.zero_le _, hG, rfl, hr⟩ ?_ ?_ rfl ?_ ?_ rfl ?_
  · exact Vm.b10
  · exact Vm.b7
  · exact Vm.b59
  · exact Vm.b59
  rintro ⟨k, ⟨at1, en, rg, ce, dr, se⟩, x, tr, a⟩ ⟨hk, hg, hl, hr1⟩
  dsimp only at hk hg hl hr1 ⊢
  cases en
  · by_cases hkf : k < f.toNat
    · have hkf2 : (k : Int) < f := by omega
      have hn190 := stepE_ne190 P v ⟨at1, false, rg, ce, dr, se⟩
      have hl2 : (tr ++ [at1]).length = k + 1 := by simp [hl]
      by_cases hst : stepE P v ⟨at1, false, rg, ce, dr, se⟩ = 0
      · repeat' (first | with_reducible (first | apply J1 | apply J3 | apply J4 | apply J5 | apply J6 | apply J7 | apply J8 | apply J9 | apply J10 | apply J11 | apply J12 | apply J13 | apply J14 | apply J15 | apply J16 | apply J17 | apply J18 | apply J19 | apply J20 | refine J2 ?_) | ((with_reducible apply J21); (· rfl)) | ((with_reducible intro hif); first | (focus (cases hif; done)) | (simp only [JH] at hif; try (exfalso; omega)) | (try (exfalso; omega))) | ((first | ((with_reducible apply J22 cGo_ok tab_ok); (· rfl)) | ((with_reducible apply J23 fol cGo_ok tab_ok); (· rfl)) | with_reducible apply J24); (· exact Vm.b74); (try kernel_rfl); (try exact Vm.b21)) | fail)
        with_reducible apply WF.split 3 5
        · rfl
        with_reducible apply At.run cGo_ok tab_ok
        · rfl
        · rfl
        · rfl
        · exact Vm.b67
        · exact Vm.b53
        with_reducible apply At.yield (gr := _)
        · rfl
        · rfl
        · rfl
        · rfl
        · rfl
        · rfl
        · exact Vm.b67
        · exact Vm.b68
        · exact Vm.b67
        · exact Vm.b53
        · exact Vm.b67
        · exact Vm.b53
        · exact Vm.b68
        · exact hrec
        · exact hcf
        · rfl
        · rfl
        · rfl
        intro lb E2 next hE2 hnext
        repeat' (first | with_reducible (first | apply J1 | apply J3 | apply J4 | apply J5 | apply J6 | apply J7 | apply J8 | apply J9 | apply J10 | apply J11 | apply J12 | apply J13 | apply J14 | apply J15 | apply J16 | apply J17 | apply J18 | apply J19 | apply J20 | refine J2 ?_) | ((with_reducible apply J21); (· rfl)) | ((with_reducible intro hif); first | (focus (cases hif; done)) | (simp only [JH] at hif; try (exfalso; omega)) | (try (exfalso; omega))) | ((first | ((with_reducible apply J22 cGo_ok tab_ok); (· rfl)) | ((with_reducible apply J23 fol cGo_ok tab_ok); (· rfl)) | with_reducible apply J24); (· exact Vm.b75); (try kernel_rfl); (try exact Vm.b21)) | fail)
        with_reducible apply At.begins hrec
        · rfl
        with_reducible refine At.code ?_
        repeat' (first | with_reducible (first | apply J1 | apply J3 | apply J4 | apply J5 | apply J6 | apply J7 | apply J8 | apply J9 | apply J10 | apply J11 | apply J12 | apply J13 | apply J14 | apply J15 | apply J16 | apply J17 | apply J18 | apply J19 | apply J20 | refine J2 ?_) | ((with_reducible apply J21); (· rfl)) | ((with_reducible intro hif); first | (focus (cases hif; done)) | (simp only [JH] at hif; try (exfalso; omega)) | (try (exfalso; omega))) | ((first | ((with_reducible apply J22 cGo_ok tab_ok); (· rfl)) | ((with_reducible apply J23 fol cGo_ok tab_ok); (· rfl)) | with_reducible apply J24); (· exact Vm.b75); (try kernel_rfl); (try exact Vm.b21)) | fail)
        with_reducible apply At.roundNormal
        · exact Vm.b68
        apply hnext
        with_reducible apply At.runEnd cGo_ok tab_ok
        · rfl
        · rfl
        · rfl
        · exact Vm.b67
        · exact Vm.b53
        repeat' (first | with_reducible (first | apply J1 | apply J3 | apply J4 | apply J5 | apply J6 | apply J7 | apply J8 | apply J9 | apply J10 | apply J11 | apply J12 | apply J13 | apply J14 | apply J15 | apply J16 | apply J17 | apply J18 | apply J19 | apply J20 | refine J2 ?_) | ((with_reducible apply J21); (· rfl)) | ((with_reducible intro hif); first | (focus (cases hif; done)) | (simp only [JH] at hif; try (exfalso; omega)) | (try (exfalso; omega))) | ((first | ((with_reducible apply J22 cGo_ok tab_ok); (· rfl)) | ((with_reducible apply J23 fol cGo_ok tab_ok); (· rfl)) | with_reducible apply J24); (· exact Vm.b75); (try kernel_rfl); (try exact Vm.b21)) | fail)
        refine At.nextPick [0, 1, 2, 3, 4, 5, 6, 7, 8, 9, 10, 11, 12, 13, 14, 15, 16, 18] ⟨k + 1, stepS P v ⟨at1, false, rg, ce, dr, se⟩, stepX P ⟨at1, false, rg, ce, dr, se⟩ x, tr ++ [at1], at1⟩ ?_ rfl rfl rfl ?_ rfl ?_ ?_ ?_ rfl
        · exact Vm.b69
        · exact Vm.b31
        · exact Vm.b59
        · exact Vm.b51
        · exact Vm.b59
      · rw [runA_bad rfl (by omega) hst] at hr1
        subst hr1
        have hb1 : decide (stepE P v ⟨at1, false, rg, ce, dr, se⟩ = 0) = false := by simp [hst]
        have hb2 : (if stepE P v ⟨at1, false, rg, ce, dr, se⟩ = 190 then 0 else stepE P v ⟨at1, false, rg, ce, dr, se⟩) = stepE P v ⟨at1, false, rg, ce, dr, se⟩ := if_neg hn190
        have hb3 : (decide (stepE P v ⟨at1, false, rg, ce, dr, se⟩ ≠ 0) && decide (stepE P v ⟨at1, false, rg, ce, dr, se⟩ ≠ 190)) = true := by simp [hst, hn190]
        repeat' (first | with_reducible (first | apply J1 | apply J3 | apply J4 | apply J5 | apply J6 | apply J7 | apply J8 | apply J9 | apply J10 | apply J11 | apply J12 | apply J13 | apply J14 | apply J15 | apply J16 | apply J17 | apply J18 | apply J19 | apply J20 | refine J2 ?_) | ((with_reducible apply J21); (· rfl)) | ((with_reducible intro hif); first | (focus (cases hif; done)) | (simp only [JH] at hif; try (exfalso; omega)) | (try (exfalso; omega))) | ((first | ((with_reducible apply J22 cGo_ok tab_ok); (· rfl)) | ((with_reducible apply J23 fol cGo_ok tab_ok); (· rfl)) | with_reducible apply J24); (· exact Vm.b74); (try kernel_rfl); (try exact Vm.b21)) | fail)
        with_reducible apply WF.split 3 5
        · rfl
        with_reducible apply At.run cGo_ok tab_ok
        · rfl
        · rfl
        · rfl
        · exact Vm.b67
        · exact Vm.b53
        with_reducible apply At.yield (gr := _)
        · rfl
        · rfl
        · rfl
        · rfl
        · rfl
        · rfl
        · exact Vm.b67
        · exact Vm.b68
        · exact Vm.b67
        · exact Vm.b53
        · exact Vm.b67
        · exact Vm.b53
        · exact Vm.b68
        · exact hrec
        · exact hcf
        · rfl
        · rfl
        · rfl
        intro lb E2 next hE2 hnext
        repeat' (first | with_reducible (first | apply J1 | apply J3 | apply J4 | apply J5 | apply J6 | apply J7 | apply J8 | apply J9 | apply J10 | apply J11 | apply J12 | apply J13 | apply J14 | apply J15 | apply J16 | apply J17 | apply J18 | apply J19 | apply J20 | refine J2 ?_) | ((with_reducible apply J21); (· rfl)) | ((with_reducible intro hif); first | (focus (cases hif; done)) | (simp only [JH] at hif; try (exfalso; omega)) | (try (exfalso; omega))) | ((first | ((with_reducible apply J22 cGo_ok tab_ok); (· rfl)) | ((with_reducible apply J23 fol cGo_ok tab_ok); (· rfl)) | with_reducible apply J24); (· exact Vm.b75); (try kernel_rfl); (try exact Vm.b21)) | fail)
        with_reducible apply At.begins hrec
        · rfl
        with_reducible refine At.code ?_
        repeat' (first | with_reducible (first | apply J1 | apply J3 | apply J4 | apply J5 | apply J6 | apply J7 | apply J8 | apply J9 | apply J10 | apply J11 | apply J12 | apply J13 | apply J14 | apply J15 | apply J16 | apply J17 | apply J18 | apply J19 | apply J20 | refine J2 ?_) | ((with_reducible apply J21); (· rfl)) | ((with_reducible intro hif); first | (focus (cases hif; done)) | (simp only [JH] at hif; try (exfalso; omega)) | (try (exfalso; omega))) | ((first | ((with_reducible apply J22 cGo_ok tab_ok); (· rfl)) | ((with_reducible apply J23 fol cGo_ok tab_ok); (· rfl)) | with_reducible apply J24); (· exact Vm.b76); (try kernel_rfl); (try exact Vm.b21)) | fail)
        with_reducible apply At.roundRet
        · exact Vm.b68
        apply hnext
        with_reducible apply At.runEnd cGo_ok tab_ok
        · rfl
        · rfl
        · rfl
        · exact Vm.b67
        · exact Vm.b53
        repeat' (first | with_reducible (first | apply J1 | apply J3 | apply J4 | apply J5 | apply J6 | apply J7 | apply J8 | apply J9 | apply J10 | apply J11 | apply J12 | apply J13 | apply J14 | apply J15 | apply J16 | apply J17 | apply J18 | apply J19 | apply J20 | refine J2 ?_) | ((with_reducible apply J21); (· rfl)) | ((with_reducible intro hif); first | (focus (cases hif; done)) | (simp only [JH] at hif; try (exfalso; omega)) | (try (exfalso; omega))) | ((first | ((with_reducible apply J22 cGo_ok tab_ok); (· rfl)) | ((with_reducible apply J23 fol cGo_ok tab_ok); (· rfl)) | with_reducible apply J24); (· exact Vm.b75); (try kernel_rfl); (try exact Vm.b21)) | fail)
        with_reducible apply At.itRet .done
        · rfl
        · rfl
        · intro h; cases h
        apply haft
        intro w1 M1 D1 hA
        dsimp only
        rw [hb1, hb2]
        try rw [hl2]
        try rw [hb3]
        repeat' (first | with_reducible (first | apply J1 | apply J3 | apply J4 | apply J5 | apply J6 | apply J7 | apply J8 | apply J9 | apply J10 | apply J11 | apply J12 | apply J13 | apply J14 | apply J15 | apply J16 | apply J17 | apply J18 | apply J19 | apply J20 | refine J2 ?_) | ((with_reducible apply J21); (· rfl)) | ((with_reducible intro hif); first | (focus (cases hif; done)) | (simp only [JH] at hif; try (exfalso; omega)) | (try (exfalso; omega))) | ((first | ((with_reducible apply J22 cGo_ok tab_ok); (· rfl)) | ((with_reducible apply J23 fol cGo_ok tab_ok); (· rfl)) | with_reducible apply J24); (· exact Vm.b75); (try kernel_rfl); (try exact Vm.b21)) | fail)
        apply At.endsPick [0, 1, 2, 3, 4, 5, 6, 7, 8, 9, 18] tab_ok (fn := Try.f17) (rs := [.cell 4 4, .cell 5 46]) hA hro (Nat.le_of_ble_eq_true rfl) rfl
        · exact Vm.b12
        · exact Vm.b14
        · rfl
        · rfl
        · rfl
        · exact Vm.b31
        · rfl
        · exact Vm.b59
        · exact Vm.b9
        · exact fun β => rfl
        · exact Vm.b59
    · have e0 : f.toNat - k = 0 := by omega
      have hkf2 : ¬ (k : Int) < f := by omega
      rw [e0, runA_zero rfl] at hr1
      subst hr1
      repeat' (first | with_reducible (first | apply J1 | apply J3 | apply J4 | apply J5 | apply J6 | apply J7 | apply J8 | apply J9 | apply J10 | apply J11 | apply J12 | apply J13 | apply J14 | apply J15 | apply J16 | apply J17 | apply J18 | apply J19 | apply J20 | refine J2 ?_) | ((with_reducible apply J21); (· rfl)) | ((with_reducible intro hif); first | (focus (cases hif; done)) | (simp only [JH] at hif; try (exfalso; omega)) | (try (exfalso; omega))) | ((first | ((with_reducible apply J22 cGo_ok tab_ok); (· rfl)) | ((with_reducible apply J23 fol cGo_ok tab_ok); (· rfl)) | with_reducible apply J24); (· exact Vm.b77); (try kernel_rfl); (try exact Vm.b21)) | fail)
      with_reducible apply WF.split 3 5
      · rfl
      with_reducible apply At.run cGo_ok tab_ok
      · rfl
      · rfl
      · rfl
      · exact Vm.b70
      · exact Vm.b53
      with_reducible apply At.yield (gr := _)
      · rfl
      · rfl
      · rfl
      · rfl
      · rfl
      · rfl
      · exact Vm.b70
      · exact Vm.b71
      · exact Vm.b70
      · exact Vm.b53
      · exact Vm.b70
      · exact Vm.b53
      · exact Vm.b71
      · exact hrec
      · exact hcf
      · rfl
      · rfl
      · rfl
      intro lb E2 next hE2 hnext
      repeat' (first | with_reducible (first | apply J1 | apply J3 | apply J4 | apply J5 | apply J6 | apply J7 | apply J8 | apply J9 | apply J10 | apply J11 | apply J12 | apply J13 | apply J14 | apply J15 | apply J16 | apply J17 | apply J18 | apply J19 | apply J20 | refine J2 ?_) | ((with_reducible apply J21); (· rfl)) | ((with_reducible intro hif); first | (focus (cases hif; done)) | (simp only [JH] at hif; try (exfalso; omega)) | (try (exfalso; omega))) | ((first | ((with_reducible apply J22 cGo_ok tab_ok); (· rfl)) | ((with_reducible apply J23 fol cGo_ok tab_ok); (· rfl)) | with_reducible apply J24); (· exact Vm.b78); (try kernel_rfl); (try exact Vm.b21)) | fail)
      with_reducible apply At.begins hrec
      · rfl
      with_reducible refine At.code ?_
      repeat' (first | with_reducible (first | apply J1 | apply J3 | apply J4 | apply J5 | apply J6 | apply J7 | apply J8 | apply J9 | apply J10 | apply J11 | apply J12 | apply J13 | apply J14 | apply J15 | apply J16 | apply J17 | apply J18 | apply J19 | apply J20 | refine J2 ?_) | ((with_reducible apply J21); (· rfl)) | ((with_reducible intro hif); first | (focus (cases hif; done)) | (simp only [JH] at hif; try (exfalso; omega)) | (try (exfalso; omega))) | ((first | ((with_reducible apply J22 cGo_ok tab_ok); (· rfl)) | ((with_reducible apply J23 fol cGo_ok tab_ok); (· rfl)) | with_reducible apply J24); (· exact Vm.b78); (try kernel_rfl); (try exact Vm.b21)) | fail)
      with_reducible apply At.roundRet
      · exact Vm.b71
      apply hnext
      with_reducible apply At.runEnd cGo_ok tab_ok
      · rfl
      · rfl
      · rfl
      · exact Vm.b70
      · exact Vm.b53
      repeat' (first | with_reducible (first | apply J1 | apply J3 | apply J4 | apply J5 | apply J6 | apply J7 | apply J8 | apply J9 | apply J10 | apply J11 | apply J12 | apply J13 | apply J14 | apply J15 | apply J16 | apply J17 | apply J18 | apply J19 | apply J20 | refine J2 ?_) | ((with_reducible apply J21); (· rfl)) | ((with_reducible intro hif); first | (focus (cases hif; done)) | (simp only [JH] at hif; try (exfalso; omega)) | (try (exfalso; omega))) | ((first | ((with_reducible apply J22 cGo_ok tab_ok); (· rfl)) | ((with_reducible apply J23 fol cGo_ok tab_ok); (· rfl)) | with_reducible apply J24); (· exact Vm.b78); (try kernel_rfl); (try exact Vm.b21)) | fail)
      with_reducible apply At.itRet .done
      · rfl
      · rfl
      · intro h; cases h
      apply haft
      intro w1 M1 D1 hA
      dsimp only
      try rw [hl]
      repeat' (first | with_reducible (first | apply J1 | apply J3 | apply J4 | apply J5 | apply J6 | apply J7 | apply J8 | apply J9 | apply J10 | apply J11 | apply J12 | apply J13 | apply J14 | apply J15 | apply J16 | apply J17 | apply J18 | apply J19 | apply J20 | refine J2 ?_) | ((with_reducible apply J21); (· rfl)) | ((with_reducible intro hif); first | (focus (cases hif; done)) | (simp only [JH] at hif; try (exfalso; omega)) | (try (exfalso; omega))) | ((first | ((with_reducible apply J22 cGo_ok tab_ok); (· rfl)) | ((with_reducible apply J23 fol cGo_ok tab_ok); (· rfl)) | with_reducible apply J24); (· exact Vm.b78); (try kernel_rfl); (try exact Vm.b21)) | fail)
      apply At.endsPick [0, 1, 2, 3, 4, 5, 6, 7, 8, 9, 17] tab_ok (fn := Try.f17) (rs := [.cell 4 4, .cell 5 46]) hA hro (Nat.le_of_ble_eq_true rfl) rfl
      · exact Vm.b12
      · exact Vm.b14
      · rfl
      · rfl
      · rfl
      · exact Vm.b31
      · rfl
      · exact Vm.b59
      · exact Vm.b9
      · exact fun β => rfl
      · exact Vm.b59
  · rw [runA_end rfl] at hr1
    subst hr1
    repeat' (first | with_reducible (first | apply J1 | apply J3 | apply J4 | apply J5 | apply J6 | apply J7 | apply J8 | apply J9 | apply J10 | apply J11 | apply J12 | apply J13 | apply J14 | apply J15 | apply J16 | apply J17 | apply J18 | apply J19 | apply J20 | refine J2 ?_) | ((with_reducible apply J21); (· rfl)) | ((with_reducible intro hif); first | (focus (cases hif; done)) | (simp only [JH] at hif; try (exfalso; omega)) | (try (exfalso; omega))) | ((first | ((with_reducible apply J22 cGo_ok tab_ok); (· rfl)) | ((with_reducible apply J23 fol cGo_ok tab_ok); (· rfl)) | with_reducible apply J24); (· exact Vm.b78); (try kernel_rfl); (try exact Vm.b21)) | fail)
    with_reducible apply At.itNormal .ready
    · rfl
    · rfl
    · intro h; cases h
    apply haft
    intro w1 M1 D1 hA
    dsimp only
    try rw [hl]
    repeat' (first | with_reducible (first | apply J1 | apply J3 | apply J4 | apply J5 | apply J6 | apply J7 | apply J8 | apply J9 | apply J10 | apply J11 | apply J12 | apply J13 | apply J14 | apply J15 | apply J16 | apply J17 | apply J18 | apply J19 | apply J20 | refine J2 ?_) | ((with_reducible apply J21); (· rfl)) | ((with_reducible intro hif); first | (focus (cases hif; done)) | (simp only [JH] at hif; try (exfalso; omega)) | (try (exfalso; omega))) | ((first | ((with_reducible apply J22 cGo_ok tab_ok); (· rfl)) | ((with_reducible apply J23 fol cGo_ok tab_ok); (· rfl)) | with_reducible apply J24); (· exact Vm.b78); (try kernel_rfl); (try exact Vm.b21)) | fail)
    apply At.endsPick [0, 1, 2, 3, 4, 5, 6, 7, 8, 9, 17] tab_ok (fn := Try.f17) (rs := [.cell 4 4, .cell 5 46]) hA hro (Nat.le_of_ble_eq_true rfl) rfl
    · exact Vm.b12
    · exact Vm.b14
    · rfl
    · rfl
    · rfl
    · exact Vm.b31
    · rfl
    · exact Vm.b59
    · exact Vm.b9
    · exact fun β => rfl
    · exact Vm.b59
end Go.Proofs.Ytjliakjbdcplcaa.Vm
end

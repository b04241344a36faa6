import Derived.Test.YtjliakjbdcplcaaGreatN4
import Derived.Test.YtjliakjbdcplcaaGreatN6
import Derived.Test.YtjliakjbdcplcaaGreatN8
import Derived.Test.YtjliakjbdcplcaaGreatN9
import Derived.Test.YtjliakjbdcplcaaGreatN11
import Derived.Test.YtjliakjbdcplcaaGreatN13
section
namespace Go.Proofs.YtjliakjbdcplcaaGreat.Vm
theorem b103 {P : Prop} (h : P := by (repeat' (first | exact trivial | exact rfl | assumption | apply Stable.ite | apply And.intro | intro _ | (simp only [Stable, StableL, i64S, prS, insS, sndsS, sndS, stS, evS, macS, mB, cB, sB, eB, prO, prR, pbB, fbB, HB.stable]; done)))) : P := h
theorem b104 {P : Prop} (h : P := by simp only [push_cast, ↓JP, Nat.reduceAdd, Nat.reduceEqDiff, Nat.reduceLT, Nat.reduceMul, Nat.reduceLeDiff, reduceCtorEq, reduceIte, ↓JK, noDefer, List.drop_zero, List.drop_succ_cons, cRun, JM, engP, prP, macP, nodupN, memN, eB, prO, pbB, fbB, JE, eEnded, eAt, eStep, eState, inR, inN]; rfl) : P := h
theorem b105 {P : Prop} (h : P := by first | rfl | (simp only [push_cast, ↓JP, Nat.reduceAdd, Nat.reduceEqDiff, Nat.reduceLT, Nat.reduceMul, Nat.reduceLeDiff, reduceCtorEq, reduceIte, ↓JK, noDefer, List.drop_zero, List.drop_succ_cons, cRun, JM, engP, prP, macP, nodupN, memN, eB, prO, pbB, fbB, JE, eEnded, eAt, eStep, eState, inR, inN]; done)) : P := h
theorem b106 {P : Prop} (h : P := by (repeat' (first | exact trivial | exact rfl | assumption | apply Stable.ite | apply And.intro | intro _ | (simp only [Stable, StableL, DnI.at_, dnS, dnR, i64S, prS, insS, sndsS, sndS, evtsS, evtS, prO, i64O, inO, cB, sB, HB.stable]; done)))) : P := h
theorem b107 {P : Prop} (h : P := by (simp only [push_cast, ↓JP, Nat.reduceAdd, Nat.reduceEqDiff, Nat.reduceLT, Nat.reduceMul, Nat.reduceLeDiff, reduceCtorEq, reduceIte, ↓JK, JM, JE, JB, prc_eta, dnB, dnS, DnI.at_, DnI.v, dnR, evO_, cHaG, sRunG, sRunB, rCF, rH2, cloP, dnI, nodupN, memN, isI_int, iOf, evtS, inR, inN, hRO, hkl, hY, s0, s1]; rfl)) : P := h
theorem b108 {P : Prop} (h : P := by (focus (first | exact True.intro | ((try simp only [JS, implies_true, forall_const, shaped, shapedL, kndOf, ls_sndsS, ls_sndsS', ls_i64S', ls_i64S, ls_length, hRO]); (repeat' (first | exact True.intro | assumption | omega | apply And.intro | rfl | decide | intro _)); done) | ((try simp only [JS, implies_true, forall_const, shaped, shapedL, kndOf, inR, inN]); (repeat' (first | assumption | exact True.intro | omega | apply And.intro)); done)))) : P := h
theorem b109 {P : Prop} (h : P := by (simp only [push_cast, ↓JP, Nat.reduceAdd, Nat.reduceEqDiff, Nat.reduceLT, Nat.reduceMul, Nat.reduceLeDiff, reduceCtorEq, reduceIte, ↓JK, cRun, JM, engP, prP, macP, nodupN, memN, eB, prO, pbB, fbB, JE, eEnded, eAt, eStep, eState, inR, inN]; rfl)) : P := h
theorem b110 {P : Prop} (h : P := by (first | exact True.intro | ((try simp only [JS, implies_true, forall_const, shaped, shapedL, kndOf, ls_sndsS, ls_sndsS', ls_i64S', ls_i64S, ls_length, hRO]); (repeat' (first | exact True.intro | assumption | omega | apply And.intro | rfl | decide | intro _)); done) | ((try simp only [JS, implies_true, forall_const, shaped, shapedL, kndOf]); (repeat' (first | assumption | exact True.intro | omega | apply And.intro)); done))) : P := h
theorem b111 {P : Prop} (h : P := by (simp only [push_cast, ↓JP, Nat.reduceAdd, Nat.reduceEqDiff, Nat.reduceLT, Nat.reduceMul, Nat.reduceLeDiff, reduceCtorEq, reduceIte, ↓JK, dnB, dnS, evO_, cHaG, hRO, hb, hg, hq]; rfl)) : P := h
end Go.Proofs.YtjliakjbdcplcaaGreat.Vm
end
section
open Go.Proofs.YtjliakjbdcplcaaGreat.Vm Go.RowKit
attribute [local push_cast] runR opG gtmp gval gus opX tmpsOf tm tmO tmP restr look look2 tab tys zs ets eqB eqBL allB numOf ieq Int.cast_ofNat_Int Int.ofNat_zero beq_true beq_false frameOf ev evL ofV opV loadV noW pushF wrsL setH allBorn allGone HB.born HB.isGone HB.val SV.plain dstOk hp nav fitsT SV.size sizeL SV.isAgg TK.size TK.agg bin binE binN binI arN arI cmpN cmpI keq kn narrow callV storeV setp fillV buildV buildSliceV makeV sliceV appendV appendFV slice3V copyV List.isEmpty_nil srcV evO asN ite_t ite_f ite_bool ite_int ite_nat maxV v_beq v_ble v_blt cond_true cond_false List.getElem?_cons_zero List.getElem?_cons_succ List.getD_cons_zero List.getD_cons_succ List.getD_nil List.length_cons List.length_nil List.take_succ_cons List.take_zero List.set_cons_zero List.set_cons_succ List.cons_append List.nil_append List.append_assoc List.replicate_succ List.replicate_zero Nat.zero_add Nat.add_zero decide_true decide_false Bool.true_and Bool.and_true Bool.false_and Bool.and_false Bool.true_or Bool.or_true Bool.false_or Bool.or_false beq_self_eq_true Bool.or_self Nat.lt_irrefl Nat.not_lt_zero Nat.le_refl Option.getD_some Option.getD_none BEq.rfl Bool.not_true Bool.not_false Bool.cond_true_left Bool.cond_false_right prS sndsS i64S nav_ins nav_ins0 nav_ins1 nav_ins2 nav_ins3 nav_ins4 nav_snd nav_snd0 nav_snd1 nav_snd2 isIns_insS insOf_insS isSnd_sndS sndOf_sndS isI_int isI_nat iOf
section
namespace Go.Proofs.YtjliakjbdcplcaaGreat.Vm
open Go.RowKit
set_option linter.unusedVariables false
set_option linter.unusedSimpArgs false
set_option maxRecDepth 100000
set_option maxHeartbeats 4000000
theorem Run_bad (P : List Ins) (v : Evi) (t s q o y d f : Int) (cs : List Int) (p1 p2 : Nat) (hP : PG P) (V : VOk v) (hc : cs.length ≤ 1000000) (hE : ropE P v (begS y t s cs d) f = 0) (r : RR) (hr : runA P v f.toNat (begS y t s cs d) Ins0 [] 0 = r) (hb : r.bad ≠ 0) : LitOk Tryz.prog 13 [.sl 1 2 [] 5 0 P.length (some p1), .agg [.int .u64 v.seed, .int .i64 v.process, .int .i64 v.ports, .int .i64 v.look, .int .i64 v.now], .agg [.agg [.int .i64 t, .int .i64 s, .int .i64 q], .int .i64 o, .int .i64 y], .sl 3 4 [] 1 0 cs.length (some p2), .int .i64 d, .int .i64 f]
    [.gone, .gone, .ro (.arr P.length 5 (prS P)), .gone, .ro (.arr cs.length 1 (i64S cs))]
    (.tup [.agg [.nat .i64 r.tr.length, .int .i64 r.at_, .sl 0 0 [] 0 0 0 (some 0), .nat .i64 0, .sl 0 0 [] 0 0 0 (some 0)], .int .i64 r.bad]) [.gone] := by
  have hok := hP.ok
  have hn := hP.len
  have hn' : P.length ≤ 1000000 := by omega
  have hf := (ropE_zero hE).1
  have hO := openE_zero (ropE_zero hE).2
  have hG : SG P (begS y t s cs d) := SG.of hO.2.2 (by simp [begS])
  obtain ⟨s0, hs0⟩ : ∃ s0, begS y t s cs d = s0 := ⟨_, rfl⟩
  rw [hs0] at hE hr hG
  have hl0 : ∀ ex, Less (.own 42 (.agg [.nat .i64 0, .nat .i64 0, .sl 0 0 [] 0 0 0 (some 0), .nat .i64 0, .sl 0 0 [] 0 0 0 (some 0)]) ex) (.own 42 (.agg [.nat .i64 0, .int .i64 0, .sl 0 0 [] 0 0 0 (some 0), .nat .i64 0, .sl 0 0 [] 0 0 0 (some 0)]) ex) := fun ex => less_res
  have hl1 := hl0 true
  refine litOkM (fn := Tryz.f13) 5 66 0 rfl rfl rfl rfl rfl (by simp only [StableL, Stable, hp, i64S, prS, insS, sndsS, sndS, stS, evS, macS, mB, cB, sB, eB, prO, prR, pbB, fbB, HB.stable]; simp [HB.born]) rfl fun w0 M E hro => ?_
  repeat' (first | refine Ctl.h ?_ | ((with_reducible intro hif); first | (focus (cases hif; done)) | (simp only [JH] at hif; try (exfalso; omega)) | (try (exfalso; omega))) | ((first | ((with_reducible apply J22 cRun_ok tab_ok); (· rfl)) | ((with_reducible apply J23 fol cRun_ok tab_ok); (· rfl)) | with_reducible apply J24); (· exact Vm.b98); (try kernel_rfl); (try exact Vm.b97)) | fail)
  with_reducible apply WF.range (fn' := Tryz.f88) 28
  · exact Vm.b58
  · exact Vm.b26
  · rfl
  · rfl
  · rfl
  · rfl
  · rfl
  · rfl
  · rfl
  intro E1 rec tmps after hE1 hrec hcf haft
  repeat' (first | refine Ctl.h ?_ | ((with_reducible intro hif); first | (focus (cases hif; done)) | (simp only [JH] at hif; try (exfalso; omega)) | (try (exfalso; omega))) | ((first | ((with_reducible apply J22 cRun_ok tab_ok); (· rfl)) | ((with_reducible apply J23 fol cRun_ok tab_ok); (· rfl)) | with_reducible apply J24); (· exact Vm.b99); (try kernel_rfl); (try exact Vm.b14)) | fail)
  refine At.pick (L2 := [.gone, .gone, .ro (.arr P.length 5 (prS P)), .gone, .ro (.arr cs.length 1 (i64S cs)), .gone, .gone, .own 42 (.agg [.nat .i64 0, .nat .i64 0, .sl 0 0 [] 0 0 0 (some 0), .nat .i64 0, .sl 0 0 [] 0 0 0 (some 0)]) true, eB 9 12 P.length, mB s0 v Ins0 10 19, cB s0, .gone, prO P, .own 43 (.int .i64 0) true, .own 42 (.agg [.nat .i64 0, .int .i64 0, .sl 0 0 [] 0 0 0 (some 0), .nat .i64 0, .sl 0 0 [] 0 0 0 (some 0)]) true, pbB 8, fbB f, .raw (.deferred (some [])), .raw (.loop (rec .ready none)), sB s0]) (φ2 := [(0, .yl 18), (1, .ptr 15 []), (2, .ptr 16 []), (4, .nat .i64 0)]) [0, 1, 2, 3, 4, 5, 6, 7, 8, 9, 10, 11, 12, 13, 14, 15, 16, 17, 18, 11] rfl rfl rfl ?_ rfl ?_ ?_ ?_ rfl ?_
  · exact Vm.b87
  · exact Vm.b103
  · exact Vm.b67
  · exact Vm.b103
  refine WF.loopAt (fun (z : RS) => RInv P v f r z) (fun (z : RS) => [(0, .yl 18), (1, .ptr 15 []), (2, .ptr 16 []), (4, .nat .i64 z.k)]) (fun (z : RS) => [.gone, .gone, .ro (.arr P.length 5 (prS P)), .gone, .ro (.arr cs.length 1 (i64S cs)), .gone, .gone, .own 42 (.agg [.nat .i64 0, .nat .i64 0, .sl 0 0 [] 0 0 0 (some 0), .nat .i64 0, .sl 0 0 [] 0 0 0 (some 0)]) true, eB 9 12 P.length, mB z.s v z.x 10 19, cB z.s, .gone, prO P, .own 43 (.int .i64 0) true, .own 42 (.agg [.nat .i64 z.k, .int .i64 z.a, .sl 0 0 [] 0 0 0 (some 0), .nat .i64 0, .sl 0 0 [] 0 0 0 (some 0)]) true, pbB 8, fbB f, .raw (.deferred (some [])), .raw (.loop (rec .ready none)), sB z.s]) (fun (z : RS) => f.toNat - z.k) ⟨0, s0, Ins0, [], 0⟩ ⟨Nat.zero_le _, hG, rfl, hr⟩ ?_ ?_ rfl ?_ ?_ rfl ?_
  · exact Vm.b5
  · exact Vm.b6
  · exact Vm.b103
  · exact Vm.b103
  rintro ⟨k, ⟨at1, en, rg, ce, dr, se⟩, x, tr, a⟩ ⟨hk, hg, hl, hr1⟩
  dsimp only at hk hg hl hr1 ⊢
  cases en
  · by_cases hkf : k < f.toNat
    · have hkf2 : (k : Int) < f := by omega
      by_cases hst : stepE P v ⟨at1, false, rg, ce, dr, se⟩ = 0
      · repeat' (first | refine Ctl.h ?_ | ((with_reducible intro hif); first | (focus (cases hif; done)) | (simp only [JH] at hif; try (exfalso; omega)) | (try (exfalso; omega))) | ((first | ((with_reducible apply J22 cRun_ok tab_ok); (· rfl)) | ((with_reducible apply J23 fol cRun_ok tab_ok); (· rfl)) | with_reducible apply J24); (· exact Vm.b100); (try kernel_rfl); (try exact Vm.b14)) | fail)
        with_reducible apply WF.split 3 5
        · rfl
        with_reducible apply At.run cRun_ok tab_ok
        · rfl
        · rfl
        · rfl
        · exact Vm.b89
        · exact Vm.b60
        with_reducible apply At.yield (gr := _)
        · rfl
        · rfl
        · rfl
        · rfl
        · rfl
        · rfl
        · exact Vm.b89
        · exact Vm.b90
        · exact Vm.b89
        · exact Vm.b60
        · exact Vm.b89
        · exact Vm.b60
        · exact Vm.b90
        · exact hrec
        · exact hcf
        · rfl
        · rfl
        · rfl
        intro lb E2 next hE2 hnext
        repeat' (first | refine Ctl.h ?_ | ((with_reducible intro hif); first | (focus (cases hif; done)) | (simp only [JH] at hif; try (exfalso; omega)) | (try (exfalso; omega))) | ((first | ((with_reducible apply J22 cRun_ok tab_ok); (· rfl)) | ((with_reducible apply J23 fol cRun_ok tab_ok); (· rfl)) | with_reducible apply J24); (· exact Vm.b101); (try kernel_rfl); (try exact Vm.b14)) | fail)
        with_reducible apply At.begins hrec
        · rfl
        with_reducible refine At.code ?_
        repeat' (first | refine Ctl.h ?_ | ((with_reducible intro hif); first | (focus (cases hif; done)) | (simp only [JH] at hif; try (exfalso; omega)) | (try (exfalso; omega))) | ((first | ((with_reducible apply J22 cRun_ok tab_ok); (· rfl)) | ((with_reducible apply J23 fol cRun_ok tab_ok); (· rfl)) | with_reducible apply J24); (· exact Vm.b101); (try kernel_rfl); (try exact Vm.b14)) | fail)
        with_reducible apply At.roundNormal
        · exact Vm.b90
        apply hnext
        with_reducible apply At.runEnd cRun_ok tab_ok
        · rfl
        · rfl
        · rfl
        · exact Vm.b89
        · exact Vm.b60
        repeat' (first | refine Ctl.h ?_ | ((with_reducible intro hif); first | (focus (cases hif; done)) | (simp only [JH] at hif; try (exfalso; omega)) | (try (exfalso; omega))) | ((first | ((with_reducible apply J22 cRun_ok tab_ok); (· rfl)) | ((with_reducible apply J23 fol cRun_ok tab_ok); (· rfl)) | with_reducible apply J24); (· exact Vm.b101); (try kernel_rfl); (try exact Vm.b14)) | fail)
        refine At.nextPick [0, 1, 2, 3, 4, 5, 6, 7, 8, 9, 10, 11, 12, 13, 14, 15, 16, 17, 18, 20] ⟨k + 1, stepS P v ⟨at1, false, rg, ce, dr, se⟩, stepX P ⟨at1, false, rg, ce, dr, se⟩ x, tr ++ [at1], at1⟩ ?_ rfl rfl rfl ?_ rfl ?_ ?_ ?_ rfl
        · exact Vm.b91
        · exact Vm.b40
        · exact Vm.b103
        · exact Vm.b67
        · exact Vm.b103
      · rw [runA_bad rfl (by omega) hst] at hr1
        subst hr1
        have hn190 := stepE_ne190 P v ⟨at1, false, rg, ce, dr, se⟩
        have hl2 : (tr ++ [at1]).length = k + 1 := by simp [hl]
        repeat' (first | refine Ctl.h ?_ | ((with_reducible intro hif); first | (focus (cases hif; done)) | (simp only [JH] at hif; try (exfalso; omega)) | (try (exfalso; omega))) | ((first | ((with_reducible apply J22 cRun_ok tab_ok); (· rfl)) | ((with_reducible apply J23 fol cRun_ok tab_ok); (· rfl)) | with_reducible apply J24); (· exact Vm.b100); (try kernel_rfl); (try exact Vm.b14)) | fail)
        with_reducible apply WF.split 3 5
        · rfl
        with_reducible apply At.run cRun_ok tab_ok
        · rfl
        · rfl
        · rfl
        · exact Vm.b89
        · exact Vm.b60
        with_reducible apply At.yield (gr := _)
        · rfl
        · rfl
        · rfl
        · rfl
        · rfl
        · rfl
        · exact Vm.b89
        · exact Vm.b90
        · exact Vm.b89
        · exact Vm.b60
        · exact Vm.b89
        · exact Vm.b60
        · exact Vm.b90
        · exact hrec
        · exact hcf
        · rfl
        · rfl
        · rfl
        intro lb E2 next hE2 hnext
        repeat' (first | refine Ctl.h ?_ | ((with_reducible intro hif); first | (focus (cases hif; done)) | (simp only [JH] at hif; try (exfalso; omega)) | (try (exfalso; omega))) | ((first | ((with_reducible apply J22 cRun_ok tab_ok); (· rfl)) | ((with_reducible apply J23 fol cRun_ok tab_ok); (· rfl)) | with_reducible apply J24); (· exact Vm.b101); (try kernel_rfl); (try exact Vm.b14)) | fail)
        with_reducible apply At.begins hrec
        · rfl
        with_reducible refine At.code ?_
        repeat' (first | refine Ctl.h ?_ | ((with_reducible intro hif); first | (focus (cases hif; done)) | (simp only [JH] at hif; try (exfalso; omega)) | (try (exfalso; omega))) | ((first | ((with_reducible apply J22 cRun_ok tab_ok); (· rfl)) | ((with_reducible apply J23 fol cRun_ok tab_ok); (· rfl)) | with_reducible apply J24); (· (simp only [push_cast, ↓JP, Nat.reduceAdd, Nat.reduceEqDiff, Nat.reduceLT, Nat.reduceMul, Nat.reduceLeDiff, reduceCtorEq, reduceIte, ↓JK, cRun, JM, engP, prP, macP, nodupN, memN, eB, prO, pbB, fbB, JE, eEnded, eAt, eStep, eState, inR, inN, hst, hn190]; rfl)); (try kernel_rfl); (try exact Vm.b14)) | fail)
        with_reducible apply At.roundExit
        · exact Vm.b90
        apply hnext
        with_reducible apply At.runEnd cRun_ok tab_ok
        · rfl
        · rfl
        · rfl
        · exact Vm.b89
        · exact Vm.b60
        repeat' (first | refine Ctl.h ?_ | ((with_reducible intro hif); first | (focus (cases hif; done)) | (simp only [JH] at hif; try (exfalso; omega)) | (try (exfalso; omega))) | ((first | ((with_reducible apply J22 cRun_ok tab_ok); (· rfl)) | ((with_reducible apply J23 fol cRun_ok tab_ok); (· rfl)) | with_reducible apply J24); (· exact Vm.b101); (try kernel_rfl); (try exact Vm.b14)) | fail)
        with_reducible apply At.itRet .done
        · rfl
        · rfl
        · intro h; cases h
        apply haft
        intro w1 M1 D1 hA
        dsimp only
        repeat' (first | refine Ctl.h ?_ | ((with_reducible intro hif); first | (focus (cases hif; done)) | (simp only [JH] at hif; try (exfalso; omega)) | (try (exfalso; omega))) | ((first | ((with_reducible apply J22 cRun_ok tab_ok); (· rfl)) | ((with_reducible apply J23 fol cRun_ok tab_ok); (· rfl)) | with_reducible apply J24); (· exact Vm.b101); (try kernel_rfl); (try exact Vm.b14)) | fail)
        apply At.endsRet tab_ok (fn := Tryz.f13) (rs := [.cell 12 42, .tmp 13]) hA hro (Nat.le_of_ble_eq_true rfl) rfl
        · exact Vm.b11
        · exact Vm.b9
        · exact Vm.b6
        · rfl
        · exact Vm.b103
        · exact Vm.b10
        · exact fun β => by rw [hl2]; rfl
        · exact Vm.b103
    · have e0 : f.toNat - k = 0 := by omega
      have hkf2 : ¬ (k : Int) < f := by omega
      rw [e0, runA_zero rfl] at hr1
      subst hr1
      repeat' (first | refine Ctl.h ?_ | ((with_reducible intro hif); first | (focus (cases hif; done)) | (simp only [JH] at hif; try (exfalso; omega)) | (try (exfalso; omega))) | ((first | ((with_reducible apply J22 cRun_ok tab_ok); (· rfl)) | ((with_reducible apply J23 fol cRun_ok tab_ok); (· rfl)) | with_reducible apply J24); (· (simp only [push_cast, ↓JP, Nat.reduceAdd, Nat.reduceEqDiff, Nat.reduceLT, Nat.reduceMul, Nat.reduceLeDiff, reduceCtorEq, reduceIte, ↓JK, cRun, JM, engP, prP, macP, nodupN, memN, eB, prO, pbB, fbB, JE, eEnded, eAt, eStep, eState, inR, inN, hkf2]; rfl)); (try kernel_rfl); (try exact Vm.b14)) | fail)
      with_reducible apply WF.split 3 5
      · rfl
      with_reducible apply At.run cRun_ok tab_ok
      · rfl
      · rfl
      · rfl
      · exact Vm.b104
      · exact Vm.b60
      with_reducible apply At.yield (gr := _)
      · rfl
      · rfl
      · rfl
      · rfl
      · rfl
      · rfl
      · exact Vm.b104
      · exact Vm.b105
      · exact Vm.b104
      · exact Vm.b60
      · exact Vm.b104
      · exact Vm.b60
      · exact Vm.b105
      · exact hrec
      · exact hcf
      · rfl
      · rfl
      · rfl
      intro lb E2 next hE2 hnext
      repeat' (first | refine Ctl.h ?_ | ((with_reducible intro hif); first | (focus (cases hif; done)) | (simp only [JH] at hif; try (exfalso; omega)) | (try (exfalso; omega))) | ((first | ((with_reducible apply J22 cRun_ok tab_ok); (· rfl)) | ((with_reducible apply J23 fol cRun_ok tab_ok); (· rfl)) | with_reducible apply J24); (· exact Vm.b109); (try kernel_rfl); (try exact Vm.b14)) | fail)
      with_reducible apply At.begins hrec
      · rfl
      with_reducible refine At.code ?_
      repeat' (first | refine Ctl.h ?_ | ((with_reducible intro hif); first | (focus (cases hif; done)) | (simp only [JH] at hif; try (exfalso; omega)) | (try (exfalso; omega))) | ((first | ((with_reducible apply J22 cRun_ok tab_ok); (· rfl)) | ((with_reducible apply J23 fol cRun_ok tab_ok); (· rfl)) | with_reducible apply J24); (· exact Vm.b109); (try kernel_rfl); (try exact Vm.b14)) | fail)
      with_reducible apply At.roundExit
      · exact Vm.b105
      apply hnext
      with_reducible apply At.runEnd cRun_ok tab_ok
      · rfl
      · rfl
      · rfl
      · exact Vm.b104
      · exact Vm.b60
      repeat' (first | refine Ctl.h ?_ | ((with_reducible intro hif); first | (focus (cases hif; done)) | (simp only [JH] at hif; try (exfalso; omega)) | (try (exfalso; omega))) | ((first | ((with_reducible apply J22 cRun_ok tab_ok); (· rfl)) | ((with_reducible apply J23 fol cRun_ok tab_ok); (· rfl)) | with_reducible apply J24); (· exact Vm.b109); (try kernel_rfl); (try exact Vm.b14)) | fail)
      with_reducible apply At.itRet .done
      · rfl
      · rfl
      · intro h; cases h
      apply haft
      intro w1 M1 D1 hA
      dsimp only
      repeat' (first | refine Ctl.h ?_ | ((with_reducible intro hif); first | (focus (cases hif; done)) | (simp only [JH] at hif; try (exfalso; omega)) | (try (exfalso; omega))) | ((first | ((with_reducible apply J22 cRun_ok tab_ok); (· rfl)) | ((with_reducible apply J23 fol cRun_ok tab_ok); (· rfl)) | with_reducible apply J24); (· exact Vm.b109); (try kernel_rfl); (try exact Vm.b14)) | fail)
      apply At.endsRet tab_ok (fn := Tryz.f13) (rs := [.cell 12 42, .tmp 13]) hA hro (Nat.le_of_ble_eq_true rfl) rfl
      · exact Vm.b11
      · exact Vm.b9
      · exact Vm.b6
      · rfl
      · exact Vm.b103
      · exact Vm.b10
      · exact fun β => by rw [hl]; rfl
      · exact Vm.b103
  · rw [runA_end rfl] at hr1
    rw [← hr1] at hb
    exact absurd rfl hb
end Go.Proofs.YtjliakjbdcplcaaGreat.Vm
end

section
namespace Go.Proofs.YtjliakjbdcplcaaGreat.Vm
open Go.RowKit
set_option linter.unusedVariables false
set_option linter.unusedSimpArgs false
set_option maxRecDepth 100000
set_option maxHeartbeats 4000000
def cRej : FuncId → Option Spec := look2 [(48, sRoB)]
theorem cRej_ok : ∀ f S, cRej f = some S → CallOk Tryz.prog f S := allOk_spec ⟨sRoB_ok, trivial⟩
theorem Run_rej (P : List Ins) (v : Evi) (t s q o y d f : Int) (cs : List Int) (p1 p2 : Nat) (hok : ∀ x ∈ P, x.ok) (hn : P.length ≤ 1000000) (hc : cs.length ≤ 1000000) (hE : ropE P v (begS y t s cs d) f ≠ 0) : LitOk Tryz.prog 13 [.sl 1 2 [] 5 0 P.length (some p1), .agg [.int .u64 v.seed, .int .i64 v.process, .int .i64 v.ports, .int .i64 v.look, .int .i64 v.now], .agg [.agg [.int .i64 t, .int .i64 s, .int .i64 q], .int .i64 o, .int .i64 y], .sl 3 4 [] 1 0 cs.length (some p2), .int .i64 d, .int .i64 f]
    [.gone, .gone, .ro (.arr P.length 5 (prS P)), .gone, .ro (.arr cs.length 1 (i64S cs))]
    (.tup [.agg [.nat .i64 0, .int .i64 0, .sl 0 0 [] 0 0 0 (some 0), .nat .i64 0, .sl 0 0 [] 0 0 0 (some 0)], .int .i64 (ropE P v (begS y t s cs d) f)]) [.gone] := by
  obtain ⟨s0, hs0⟩ : ∃ s0, begS y t s cs d = s0 := ⟨_, rfl⟩
  rw [hs0] at hE ⊢
  refine litOkM (fn := Tryz.f13) 5 66 0 rfl rfl rfl rfl rfl (by simp only [StableL, Stable, hp, i64S, prS, insS, sndsS, sndS, stS, evS, macS, mB, cB, sB, eB, prO, prR, pbB, fbB, HB.stable]; simp [HB.born]) rfl fun w0 M E hro => ?_
  repeat' (first | refine Ctl.h ?_ | ((with_reducible intro hif); first | (focus (cases hif; done)) | (simp only [JH] at hif; try (exfalso; omega)) | (try (exfalso; omega))) | ((first | ((with_reducible apply J22 cRej_ok tab_ok); (· rfl)) | ((with_reducible apply J23 fol cRej_ok tab_ok); (· rfl)) | with_reducible apply J24); (· (simp only [push_cast, ↓JP, Nat.reduceAdd, Nat.reduceEqDiff, Nat.reduceLT, Nat.reduceMul, Nat.reduceLeDiff, reduceCtorEq, reduceIte, ↓JK, cRej, sRoB, JE, hs0, inR, inN, hE]; rfl)); (try kernel_rfl); (try (focus (first | exact True.intro | ((try simp only [JS, implies_true, forall_const, shaped, shapedL, kndOf, inR, inN]); (first | first | omega | exact ⟨hok, hn, hc⟩ | (repeat' (first | assumption | exact True.intro | omega | apply And.intro))); done))))) | fail)
  apply At.endsRet tab_ok (fn := Tryz.f13) (rs := [.cell 12 42, .tmp 13]) Anc.refl hro (Nat.le_of_ble_eq_true rfl) rfl
  · exact Vm.b11
  · exact Vm.b9
  · exact Vm.b6
  · rfl
  · exact Vm.b103
  · exact Vm.b10
  · exact fun β => rfl
  · exact Vm.b103
theorem runO_good {P : List Ins} {v : Evi} {s : Sta} {f : Int} (h : (runO P v s f).bad = 0) : ropE P v s f = 0 := by
  by_cases q : ropE P v s f = 0
  · exact q
  · unfold runO at h
    rw [if_neg q] at h
    exact absurd h q
theorem pg_of {P : List Ins} {v : Evi} {s : Sta} {f : Int} (hok : ∀ x ∈ P, x.ok) (h : ropE P v s f = 0) : PG P ∧ VOk v :=
  have q := openE_zero (ropE_zero h).2
  ⟨⟨hok, q.1⟩, VOk.of q.2.1⟩
theorem RunB_lit (P : List Ins) (v : Evi) (t s q o y d f : Int) (cs : List Int) (p1 p2 : Nat) (hok : ∀ x ∈ P, x.ok) (hn : P.length ≤ 1000000) (hc : cs.length ≤ 1000000) (hb : (runO P v (begS y t s cs d) f).bad ≠ 0) : LitOk Tryz.prog 13 [.sl 1 2 [] 5 0 P.length (some p1), .agg [.int .u64 v.seed, .int .i64 v.process, .int .i64 v.ports, .int .i64 v.look, .int .i64 v.now], .agg [.agg [.int .i64 t, .int .i64 s, .int .i64 q], .int .i64 o, .int .i64 y], .sl 3 4 [] 1 0 cs.length (some p2), .int .i64 d, .int .i64 f]
    [.gone, .gone, .ro (.arr P.length 5 (prS P)), .gone, .ro (.arr cs.length 1 (i64S cs))]
    (.tup [.agg [.nat .i64 (runO P v (begS y t s cs d) f).tr.length, .int .i64 (runO P v (begS y t s cs d) f).at_, .sl 0 0 [] 0 0 0 (some 0), .nat .i64 0, .sl 0 0 [] 0 0 0 (some 0)], .int .i64 (runO P v (begS y t s cs d) f).bad]) [.gone] := by
  by_cases hE : ropE P v (begS y t s cs d) f = 0
  · have e : runO P v (begS y t s cs d) f = runA P v f.toNat (begS y t s cs d) Ins0 [] 0 := by unfold runO; rw [if_pos hE]
    obtain ⟨hP, V⟩ := pg_of hok hE
    rw [e] at hb ⊢
    exact Run_bad P v t s q o y d f cs p1 p2 hP V hc hE _ rfl hb
  · have e : runO P v (begS y t s cs d) f = ⟨[], 0, ropE P v (begS y t s cs d) f, zeroSt, Ins0⟩ := by unfold runO; rw [if_neg hE]
    rw [e]
    exact Run_rej P v t s q o y d f cs p1 p2 hok hn hc hE
theorem RunG_lit (P : List Ins) (v : Evi) (t s q o y d f : Int) (cs : List Int) (p1 p2 : Nat) (hok : ∀ x ∈ P, x.ok) (hc : cs.length ≤ 1000000) (hb : (runO P v (begS y t s cs d) f).bad = 0) : LitOk Tryz.prog 13 [.sl 1 2 [] 5 0 P.length (some p1), .agg [.int .u64 v.seed, .int .i64 v.process, .int .i64 v.ports, .int .i64 v.look, .int .i64 v.now], .agg [.agg [.int .i64 t, .int .i64 s, .int .i64 q], .int .i64 o, .int .i64 y], .sl 3 4 [] 1 0 cs.length (some p2), .int .i64 d, .int .i64 f]
    [.gone, .gone, .ro (.arr P.length 5 (prS P)), .gone, .ro (.arr cs.length 1 (i64S cs))]
    (.tup [.agg [.nat .i64 (runO P v (begS y t s cs d) f).tr.length, .int .i64 (runO P v (begS y t s cs d) f).at_, .sl 5 5 [] 1 0 (runO P v (begS y t s cs d) f).s.cells.length none, .int .i64 (runO P v (begS y t s cs d) f).s.draws, .sl 6 6 [] 3 0 (runO P v (begS y t s cs d) f).s.sends.length none], .int .i64 0]) [.gone, .gone, .gone, .gone, .gone, cB (runO P v (begS y t s cs d) f).s, sB (runO P v (begS y t s cs d) f).s] := by
  have hE := runO_good hb
  have e : runO P v (begS y t s cs d) f = runA P v f.toNat (begS y t s cs d) Ins0 [] 0 := by unfold runO; rw [if_pos hE]
  obtain ⟨hP, V⟩ := pg_of hok hE
  rw [e] at hb ⊢
  exact Run_good P v t s q o y d f cs p1 p2 hP V hc hE _ rfl hb
def sRunB : Spec := fun args h m => match args with
  | [v1, .agg [v2, v3, v4, v5, v6], .agg [.agg [v7, v8, v9], v10, v11], v12, v13, v14] => match srcV h 5 (.tup []) v1, srcV h 1 (.tup []) v12 with
    | some (c1, n1, f1, r1), some (c12, n12, f12, r12) => bif isI .u64 v2 && isI .i64 v3 && isI .i64 v4 && isI .i64 v5 && isI .i64 v6 && isI .i64 v7 && isI .i64 v8 && isI .i64 v9 && isI .i64 v10 && isI .i64 v11 && isI .i64 v13 && isI .i64 v14 then some (c1 ∧ c12 ∧ (∀ q, q < n1 → isIns (f1 q) = true) ∧ (∀ q, q < n12 → isI .i64 (f12 q) = true) ∧ ((∀ x ∈ (ls insOf n1 f1), x.ok)) ∧ (n1 ≤ 1000000) ∧ (n12 ≤ 1000000) ∧ ((runO (ls insOf n1 f1) ⟨(iOf v2), (iOf v3), (iOf v4), (iOf v5), (iOf v6)⟩ (begS (iOf v11) (iOf v7) (iOf v8) (ls iOf n12 f12) (iOf v13)) (iOf v14)).bad ≠ 0), .tup [.agg [.nat .i64 (runO (ls insOf n1 f1) ⟨(iOf v2), (iOf v3), (iOf v4), (iOf v5), (iOf v6)⟩ (begS (iOf v11) (iOf v7) (iOf v8) (ls iOf n12 f12) (iOf v13)) (iOf v14)).tr.length, .int .i64 (runO (ls insOf n1 f1) ⟨(iOf v2), (iOf v3), (iOf v4), (iOf v5), (iOf v6)⟩ (begS (iOf v11) (iOf v7) (iOf v8) (ls iOf n12 f12) (iOf v13)) (iOf v14)).at_, .sl 0 0 [] 0 0 0 (some 0), .nat .i64 0, .sl 0 0 [] 0 0 0 (some 0)], .int .i64 (runO (ls insOf n1 f1) ⟨(iOf v2), (iOf v3), (iOf v4), (iOf v5), (iOf v6)⟩ (begS (iOf v11) (iOf v7) (iOf v8) (ls iOf n12 f12) (iOf v13)) (iOf v14)).bad], r1 ++ r12, []) else none
    | _, _ => none
  | _ => none
theorem sRunB_ok : CallOk Tryz.prog 13 sRunB := by
  refine ⟨named_spec (by kernel_rfl), fun args h m c v rd wr hs hm hc w0 M β h' w R hrd hwr hst => ?_⟩
  unfold sRunB at hs
  split at hs
  · rename_i v1 v2 v3 v4 v5 v6 v7 v8 v9 v10 v11 v12 v13 v14
    split at hs
    · rename_i c1 n1 f1 r1 c12 n12 f12 r12 a1 a12
      obtain ⟨hb, hs⟩ := bif_some hs
      simp only [Option.some.injEq, Prod.mk.injEq] at hs
      obtain ⟨rfl, rfl, rfl, rfl⟩ := hs
      simp only [Bool.and_eq_true] at hb
      obtain ⟨⟨⟨⟨⟨⟨⟨⟨⟨⟨⟨b2, b3⟩, b4⟩, b5⟩, b6⟩, b7⟩, b8⟩, b9⟩, b10⟩, b11⟩, b13⟩, b14⟩ := hb
      obtain ⟨k1, k12, g1, g12, y1, y2, y3, y4⟩ := hc
      obtain ⟨A1, p1, d1, e1, t1⟩ := reads_src R a1 k1 (fun i hi => hrd i (List.mem_append_left _ hi)) (by omega)
      obtain ⟨A12, p12, d12, e12, t12⟩ := reads_src R a12 k12 (fun i hi => hrd i (List.mem_append_right _ hi)) (by omega)
      refine callRo (views := [⟨5, (ls insOf n1 f1).length, prS (ls insOf n1 f1), A1, p1⟩, ⟨1, (ls iOf n12 f12).length, i64S (ls iOf n12 f12), A12, p12⟩]) (RunB_lit (ls insOf n1 f1) ⟨(iOf v2), (iOf v3), (iOf v4), (iOf v5), (iOf v6)⟩ (iOf v7) (iOf v8) (iOf v9) (iOf v10) (iOf v11) (iOf v13) (iOf v14) (ls iOf n12 f12) p1 p12 y1 (by rw [ls_length]; exact y2) (by rw [ls_length]; exact y3) y4) ?_ R hm hwr ?_ ?_ ?_
      · intro x hx
        simp only [List.mem_cons, List.not_mem_nil, or_false] at hx
        rcases hx with rfl | rfl
        · exact viewIns t1 e1 g1
        · exact viewI64 t12 e12 g12
      · intro β1 hv
        simp only [Vd, ls_length, and_true] at hv
        obtain ⟨z1, z12⟩ := hv
        simp only [denL, aggDen, intDen, natDen, boolDen, ls_length, z1, z12, d1, d12, isI_den b2, isI_den b3, isI_den b4, isI_den b5, isI_den b6, isI_den b7, isI_den b8, isI_den b9, isI_den b10, isI_den b11, isI_den b13, isI_den b14]
      · exact Vm.b103
      · exact Vm.b103
    · cases hs
  · cases hs
def sRunG : Spec := fun args h m => match args with
  | [v1, .agg [v2, v3, v4, v5, v6], .agg [.agg [v7, v8, v9], v10, v11], v12, v13, v14] => match srcV h 5 (.tup []) v1, srcV h 1 (.tup []) v12 with
    | some (c1, n1, f1, r1), some (c12, n12, f12, r12) => bif isI .u64 v2 && isI .i64 v3 && isI .i64 v4 && isI .i64 v5 && isI .i64 v6 && isI .i64 v7 && isI .i64 v8 && isI .i64 v9 && isI .i64 v10 && isI .i64 v11 && isI .i64 v13 && isI .i64 v14 then some (c1 ∧ c12 ∧ (∀ q, q < n1 → isIns (f1 q) = true) ∧ (∀ q, q < n12 → isI .i64 (f12 q) = true) ∧ ((∀ x ∈ (ls insOf n1 f1), x.ok)) ∧ (n1 ≤ 1000000) ∧ (n12 ≤ 1000000) ∧ ((runO (ls insOf n1 f1) ⟨(iOf v2), (iOf v3), (iOf v4), (iOf v5), (iOf v6)⟩ (begS (iOf v11) (iOf v7) (iOf v8) (ls iOf n12 f12) (iOf v13)) (iOf v14)).bad = 0), .tup [.agg [.nat .i64 (runO (ls insOf n1 f1) ⟨(iOf v2), (iOf v3), (iOf v4), (iOf v5), (iOf v6)⟩ (begS (iOf v11) (iOf v7) (iOf v8) (ls iOf n12 f12) (iOf v13)) (iOf v14)).tr.length, .int .i64 (runO (ls insOf n1 f1) ⟨(iOf v2), (iOf v3), (iOf v4), (iOf v5), (iOf v6)⟩ (begS (iOf v11) (iOf v7) (iOf v8) (ls iOf n12 f12) (iOf v13)) (iOf v14)).at_, .sl m m [] 1 0 (runO (ls insOf n1 f1) ⟨(iOf v2), (iOf v3), (iOf v4), (iOf v5), (iOf v6)⟩ (begS (iOf v11) (iOf v7) (iOf v8) (ls iOf n12 f12) (iOf v13)) (iOf v14)).s.cells.length none, .int .i64 (runO (ls insOf n1 f1) ⟨(iOf v2), (iOf v3), (iOf v4), (iOf v5), (iOf v6)⟩ (begS (iOf v11) (iOf v7) (iOf v8) (ls iOf n12 f12) (iOf v13)) (iOf v14)).s.draws, .sl (m + 1) (m + 1) [] 3 0 (runO (ls insOf n1 f1) ⟨(iOf v2), (iOf v3), (iOf v4), (iOf v5), (iOf v6)⟩ (begS (iOf v11) (iOf v7) (iOf v8) (ls iOf n12 f12) (iOf v13)) (iOf v14)).s.sends.length none], .int .i64 0], r1 ++ r12, [(m, cB (runO (ls insOf n1 f1) ⟨(iOf v2), (iOf v3), (iOf v4), (iOf v5), (iOf v6)⟩ (begS (iOf v11) (iOf v7) (iOf v8) (ls iOf n12 f12) (iOf v13)) (iOf v14)).s), (m + 1, sB (runO (ls insOf n1 f1) ⟨(iOf v2), (iOf v3), (iOf v4), (iOf v5), (iOf v6)⟩ (begS (iOf v11) (iOf v7) (iOf v8) (ls iOf n12 f12) (iOf v13)) (iOf v14)).s)]) else none
    | _, _ => none
  | _ => none
theorem sRunG_ok : CallOk Tryz.prog 13 sRunG := by
  refine ⟨named_spec (by kernel_rfl), fun args h m c v rd wr hs hm hc w0 M β h' w R hrd hwr hst => ?_⟩
  unfold sRunG at hs
  split at hs
  · rename_i v1 v2 v3 v4 v5 v6 v7 v8 v9 v10 v11 v12 v13 v14
    split at hs
    · rename_i c1 n1 f1 r1 c12 n12 f12 r12 a1 a12
      obtain ⟨hb, hs⟩ := bif_some hs
      simp only [Option.some.injEq, Prod.mk.injEq] at hs
      obtain ⟨rfl, rfl, rfl, rfl⟩ := hs
      simp only [Bool.and_eq_true] at hb
      obtain ⟨⟨⟨⟨⟨⟨⟨⟨⟨⟨⟨b2, b3⟩, b4⟩, b5⟩, b6⟩, b7⟩, b8⟩, b9⟩, b10⟩, b11⟩, b13⟩, b14⟩ := hb
      obtain ⟨k1, k12, g1, g12, y1, y2, y3, y4⟩ := hc
      obtain ⟨A1, p1, d1, e1, t1⟩ := reads_src R a1 k1 (fun i hi => hrd i (List.mem_append_left _ hi)) (by omega)
      obtain ⟨A12, p12, d12, e12, t12⟩ := reads_src R a12 k12 (fun i hi => hrd i (List.mem_append_right _ hi)) (by omega)
      refine callRo (views := [⟨5, (ls insOf n1 f1).length, prS (ls insOf n1 f1), A1, p1⟩, ⟨1, (ls iOf n12 f12).length, i64S (ls iOf n12 f12), A12, p12⟩]) (RunG_lit (ls insOf n1 f1) ⟨(iOf v2), (iOf v3), (iOf v4), (iOf v5), (iOf v6)⟩ (iOf v7) (iOf v8) (iOf v9) (iOf v10) (iOf v11) (iOf v13) (iOf v14) (ls iOf n12 f12) p1 p12 y1 (by rw [ls_length]; exact y3) y4) ?_ R hm hwr ?_ ?_ ?_
      · intro x hx
        simp only [List.mem_cons, List.not_mem_nil, or_false] at hx
        rcases hx with rfl | rfl
        · exact viewIns t1 e1 g1
        · exact viewI64 t12 e12 g12
      · intro β1 hv
        simp only [Vd, ls_length, and_true] at hv
        obtain ⟨z1, z12⟩ := hv
        simp only [denL, aggDen, intDen, natDen, boolDen, ls_length, z1, z12, d1, d12, isI_den b2, isI_den b3, isI_den b4, isI_den b5, isI_den b6, isI_den b7, isI_den b8, isI_den b9, isI_den b10, isI_den b11, isI_den b13, isI_den b14]
      · exact Vm.b103
      · exact Vm.b103
    · cases hs
  · cases hs
end Go.Proofs.YtjliakjbdcplcaaGreat.Vm
end
end

section
namespace Go.Proofs.YtjliakjbdcplcaaGreat.Vm
open Go.RowKit
set_option linter.unusedVariables false
set_option linter.unusedSimpArgs false
structure ApartW (a b : Rc) : Prop where
  d1 : ∀ t, a.dst = some t → b.dst ≠ some t
  d2 : ∀ t, a.dst = some t → t ∉ b.us
  d3 : ∀ t, b.dst = some t → t ∉ a.us
  w1 : ∀ i, i ∈ a.wr.map (·.1) → i ∉ b.wr.map (·.1)
  w2 : ∀ i, i ∈ a.wr.map (·.1) → i ∉ b.rd
theorem Apart.weak {a b : Rc} (h : Apart a b) : ApartW a b := ⟨h.d1, h.d2, h.d3, h.w1, h.w2⟩
def pairW (a b : Rc) : Bool := apartL (dstL a.dst) (dstL b.dst ++ b.us) && apartL (dstL b.dst) a.us && apartL (ids a.wr) (ids b.wr ++ b.rd)
theorem pairW_spec {a b : Rc} (h : pairW a b = true) : ApartW a b := by
  simp only [pairW, Bool.and_eq_true, ids_eq] at h
  obtain ⟨⟨h1, h2⟩, h3⟩ := h
  have h1 := apartL_spec h1
  have h2 := apartL_spec h2
  have h3 := apartL_spec h3
  exact ⟨fun t ha hb => h1 t (by rw [ha]; exact .head _) (List.mem_append_left _ (by rw [hb]; exact .head _)), fun t ha hb => h1 t (by rw [ha]; exact .head _) (List.mem_append_right _ hb),
    fun t ha => h2 t (by rw [ha]; exact .head _), fun i hi hj => h3 i hi (List.mem_append_left _ hj), fun i hi hj => h3 i hi (List.mem_append_right _ hj)⟩
def apartRow2 (kL kW k m : Nat) (r : Rc) : List Rc → Nat → Bool
  | [], _ => true
  | x :: l, j => (m.testBit j || (pairOk x r || ((Nat.beq j kL && Nat.beq k kW) && pairW x r))) && apartRow2 kL kW k m r l (j + 1)
def apartR2 (kL kW : Nat) : List Rc → List Nat → List Rc → Bool
  | [], _, _ => true
  | r :: l, an, seen => match an with
    | m :: an => apartRow2 kL kW seen.length m r seen 0 && apartR2 kL kW l an (seen ++ [r])
    | [] => false
theorem apartRow2_spec {kL kW k0 m : Nat} {r : Rc} : ∀ {l : List Rc} {j : Nat}, apartRow2 kL kW k0 m r l j = true → ∀ k x, l[k]? = some x → m.testBit (j + k) = true ∨ Apart x r ∨ (j + k = kL ∧ k0 = kW ∧ ApartW x r)
  | [], j, h, k, x, hk => by simp at hk
  | y :: l, j, h, k, x, hk => by
    simp only [apartRow2, Bool.and_eq_true, Bool.or_eq_true] at h
    cases k with
    | zero =>
      simp at hk
      subst hk
      rcases h.1 with h1 | h1 | ⟨⟨h1, h2⟩, h3⟩
      · exact .inl h1
      · exact .inr (.inl (pairOk_spec h1))
      · exact .inr (.inr ⟨Nat.eq_of_beq_eq_true h1, Nat.eq_of_beq_eq_true h2, pairW_spec h3⟩)
    | succ k =>
      have := apartRow2_spec h.2 k x hk
      rwa [Nat.add_assoc, Nat.add_comm 1 k] at this
theorem apartR2_spec {kL kW : Nat} : ∀ {l : List Rc} {an : List Nat} {seen : List Rc}, apartR2 kL kW l an seen = true → ∀ k r, l[k]? = some r → ∃ m, an[k]? = some m ∧ ∀ j x, (seen ++ l)[j]? = some x → j < seen.length + k → m.testBit j = true ∨ Apart x r ∨ (j = kL ∧ seen.length + k = kW ∧ ApartW x r)
  | [], an, seen, h, k, r, hk => by simp at hk
  | y :: l, an, seen, h, k, r, hk => by
    cases an with
    | nil => simp [apartR2] at h
    | cons m an =>
      simp only [apartR2, Bool.and_eq_true] at h
      cases k with
      | zero =>
        simp at hk
        subst hk
        refine ⟨m, rfl, fun j x hj hlt => ?_⟩
        have := apartRow2_spec h.1 j x (by rw [List.getElem?_append_left (by omega)] at hj; exact hj)
        rwa [Nat.zero_add] at this
      | succ k =>
        obtain ⟨m', h1, h2⟩ := apartR2_spec h.2 k r hk
        refine ⟨m', h1, fun j x hj hlt => ?_⟩
        have := h2 j x (by simpa using hj) (by simp; omega)
        rw [List.length_append, List.length_singleton, Nat.add_assoc, Nat.add_comm 1 k] at this
        exact this
def lateRow (kL kW : Nat) (r : Rc) : List Rc → Nat → Bool
  | [], _ => true
  | x :: l, j => (Nat.blt j kL || (apartL (dstL x.dst) r.us && (Nat.beq j kL || (Nat.beq j kW || apartL (ids x.wr) r.rd)))) && lateRow kL kW r l (j + 1)
def lateOk (kL kW : Nat) (rs : List Rc) : Bool := match rs[kL]? with
  | some r => Nat.blt kL kW && (r.wr.isEmpty && lateRow kL kW r rs 0)
  | none => false
theorem lateRow_spec {kL kW : Nat} {r : Rc} : ∀ {l : List Rc} {j : Nat}, lateRow kL kW r l j = true → ∀ k x, l[k]? = some x → kL ≤ j + k → (∀ t, x.dst = some t → t ∉ r.us) ∧ (kL < j + k → j + k ≠ kW → ∀ i, i ∈ x.wr.map (·.1) → i ∉ r.rd)
  | [], j, h, k, x, hk, _ => by simp at hk
  | y :: l, j, h, k, x, hk, hlt => by
    simp only [lateRow, Bool.and_eq_true, Bool.or_eq_true] at h
    cases k with
    | zero =>
      simp at hk
      subst hk
      rcases h.1 with h1 | ⟨h1, h2⟩
      · have : j + 1 ≤ kL := by simpa [Nat.blt, Nat.ble_eq] using h1
        omega
      · have h1 := apartL_spec h1
        refine ⟨fun t ht => h1 t (by rw [ht]; exact .head _), fun h3 h4 i hi => ?_⟩
        rcases h2 with h2 | h2 | h2
        · have := Nat.eq_of_beq_eq_true h2; omega
        · have := Nat.eq_of_beq_eq_true h2; omega
        · exact apartL_spec h2 i (by rw [ids_eq]; exact hi)
    | succ k =>
      have := lateRow_spec h.2 k x hk (by omega)
      rwa [Nat.add_assoc, Nat.add_comm 1 k] at this
theorem lateOk_spec {kL kW : Nat} {rs : List Rc} {rL : Rc} (h : lateOk kL kW rs = true) (hr : rs[kL]? = some rL) : kL < kW ∧ rL.wr = [] ∧ ∀ j x, rs[j]? = some x → kL ≤ j → (∀ t, x.dst = some t → t ∉ rL.us) ∧ (kL < j → j ≠ kW → ∀ i, i ∈ x.wr.map (·.1) → i ∉ rL.rd) := by
  unfold lateOk at h
  rw [hr] at h
  simp only [Bool.and_eq_true] at h
  obtain ⟨h1, h2, h3⟩ := h
  have h1' : kL + 1 ≤ kW := by simpa [Nat.blt, Nat.ble_eq] using h1
  refine ⟨by omega, List.isEmpty_iff.1 h2, fun j x hj hlt => ?_⟩
  have := lateRow_spec h3 j x hj (by omega)
  rwa [Nat.zero_add] at this
def regionOk2 (kL kW : Nat) (ops : List Oper) (rs : List Rc) : Bool := (topoL ops 0 && apartR2 kL kW rs (ancs ops []) []) && lateOk kL kW rs
section
variable {P : Program} {T : Tab} {C : FuncId → Option Spec} {w0 w : World} {M : Nat → Prop} {E : Env} {n0 N n : Nat} {D : List Deferred} {φ φ' : Fr} {L L' : List HB} {a : Act} {ro : Option Nat} {Q : Exit → Act → World → Prop}
theorem wpAny_drawn2 {kL kW : Nat} {oL : Oper} {c2 : Prop} {rL : Rc} (hm : P.follows .mixedOrders = true) (hC : ∀ f S, C f = some S → CallOk P f S) (hT : TabOk P T) {ops : Array Oper} {Q : Exit → Act → World → Prop} {c : Prop} {rs : List Rc} (hr : runR T C N ops.toList φ L ops.toList = some (c, rs, φ', L')) (hok : regionOk2 kL kW ops.toList rs = true) (hoL : ops[kL]? = some oL) (hrL : rs[kL]? = some rL) (hgL : opG T C N ops.toList φ' L' oL = some (c2, rL)) (hcL : c2) (hc : c)
    (hS : St w0 M E n0 N D φ L a w) (hQ : ∀ a w, St w0 M E n0 N D φ' L' a w → Q .normal a w) : wpAny P .any ops Q ops.size (Array.replicate ops.size false) a { w with drawn := w.drawn + 1 } := by
  simp only [regionOk2, Bool.and_eq_true] at hok
  obtain ⟨⟨htopo, hap⟩, hlate⟩ := hok
  obtain ⟨hLW, hwL, hlt⟩ := lateOk_spec hlate hrL
  obtain ⟨hlen, hφ', hL', hops⟩ := runR_spec hr
  have hlen : rs.length = ops.size := hlen.trans (Array.length_toList)
  refine wpAny_inv (I := Inv w0 M E n0 N D ops (look φ) (hp L) rs) (fun _ _ _ h => h.sz) ?step ?fin _ _ _ _ (by rw [Array.toList_replicate]; simp) ?start
  case start =>
    obtain ⟨⟨β, hE, R, F⟩, hbn, hsz, hdf⟩ := hS
    have e0 : (fun j => (Array.replicate ops.size false).getD j false) = fun _ => false := funext fun j => by
      rw [Array.getD_eq_getD_getElem?]
      rcases Nat.lt_or_ge j ops.size with h | h
      · simp [h]
      · simp [Array.getElem?_eq_none, h]
    have eh : ∀ n, heS (hp L) (fun j => rs[j]?) (fun _ => false) n = hp L := fun n => by
      induction n with
      | zero => rfl
      | succ n ih => simp only [heS]; split <;> simp [ih]
    have el : ∀ n t, lkS (look φ) (fun j => rs[j]?) (fun _ => false) n t = look φ t := fun n t => by
      induction n with
      | zero => rfl
      | succ n ih => simp only [lkS]; split <;> simp [ih]
    refine ⟨by simp, fun j o _ hj => ?_, ⟨β, hE, ?_, ?_⟩, ?_, hsz, hdf⟩
    · rw [congrFun e0 j] at hj; cases hj
    · rw [e0, eh]; exact R.drawn
    · rw [e0]
      intro t v hv
      rw [el] at hv
      rw [eh]
      exact F t v hv
    · rw [e0, eh]; exact hbn
  case fin =>
    intro listed a w hI hr0
    have hall : ∀ k, k < ops.size → listed.getD k false = true := by
      intro k
      induction k using Nat.strongRecOn with
      | _ k ih =>
        intro hk
        cases hb : listed.getD k false with
        | true => rfl
        | false =>
          exfalso
          have hk' : k < listed.size := by rw [hI.sz]; exact hk
          have hmem : k ∈ Region.ready .any ops listed := by
            refine mem_ready.2 ⟨?_, ops[k], by simp [hk], fun e he hbd => ?_⟩
            · rw [Array.getD_eq_getD_getElem?, Array.getElem?_eq_getElem hk'] at hb ⊢
              exact hb
            · have hed : e.on ∈ edges ops[k] := mem_edges.2 ⟨e, by simpa using he, hbd, rfl⟩
              have hlt := topoL_spec (k := 0) (j := k) (o := ops[k]) htopo (by simp [hk]) _ hed
              rw [Nat.zero_add] at hlt
              exact ih e.on hlt (by omega)
          rw [hr0] at hmem
          cases hmem
    obtain ⟨β, hE, R, F⟩ := hI.ex
    have eh : heS (hp L) (fun j => rs[j]?) (fun j => listed.getD j false) rs.length = hp L' := by
      rw [hL']
      funext i
      exact heS_congr fun j r hj _ _ => hall j (by omega)
    have el : ∀ t, lkS (look φ) (fun j => rs[j]?) (fun j => listed.getD j false) rs.length t = look φ' t := fun t => by
      rw [hφ' t]
      exact lkS_congr fun j r hj _ _ => hall j (by omega)
    refine hQ a w ⟨⟨β, hE, by rw [← eh]; exact R, fun t v hv => ?_⟩, fun i hi => by rw [← eh]; exact hI.born i hi, hI.size, hI.defers⟩
    rw [← el] at hv
    rw [← eh]
    exact F t v hv
  case step =>
    intro listed a w k hI hk
    obtain ⟨hun, o, ho, hpre⟩ := mem_ready.1 hk
    have hklt : k < ops.size := (Array.getElem?_eq_some_iff.1 ho).1
    have hkl : k < listed.size := by rw [hI.sz]; exact hklt
    have hkn : listed.getD k false = false := by
      rw [Array.getD_eq_getD_getElem?, Array.getElem?_eq_getElem hkl] at hun ⊢
      exact hun
    obtain ⟨r, φk, Lk, ck, hrk, hg, hck, hφk, hLk⟩ := hops k o (by rw [Array.getElem?_toList]; exact ho)
    obtain ⟨β, hE, R, F⟩ := hI.ex
    -- the set, and what it is with k
    have hS' : ∀ j, (listed.setIfInBounds k true).getD j false = (decide (j = k) || listed.getD j false) := fun j => by
      rw [Array.getD_eq_getD_getElem?, Array.getD_eq_getD_getElem?]
      by_cases h : k = j
      · subst h; simp [hkl]
      · rw [Array.getElem?_setIfInBounds_ne h]
        have : ¬ j = k := fun e => h e.symm
        simp [this]
    have hpre' : ∀ e ∈ edges o, listed.getD e false = true := fun e he => by
      obtain ⟨x, hx, hb, rfl⟩ := mem_edges.1 he
      exact hpre x hx hb
    -- ancestors
    obtain ⟨an1, an2, an3, _⟩ := ancs_spec (S := fun j => listed.getD j false) (l := ops.toList) (acc := []) (fun j m hj => by simp at hj) (fun j o' hj hs e he => hI.closed j o' (by rw [← Array.getElem?_toList]; exact hj) (by simpa using hs) e he)
    have hrs : ∀ j x, rs[j]? = some x → j < rs.length := fun j x hj => by
      rcases Nat.lt_or_ge j rs.length with h | h
      · exact h
      · rw [List.getElem?_eq_none h] at hj; cases hj
    -- those ahead of k in the text: carried out, or apart
    have before : ∀ j x, rs[j]? = some x → j < k → listed.getD j false = true ∨ ApartW x r := fun j x hj hjk => by
      obtain ⟨m, hm, hp⟩ := apartR2_spec hap k r hrk
      rcases hp j x (by simpa using hj) (by simpa using hjk) with h | h | h
      · exact .inl (an2 k o (by rw [Array.getElem?_toList]; exact ho) hpre' m (by simpa using hm) j h)
      · exact .inr h.weak
      · exact .inr h.2.2
    -- those behind k: not carried out, or apart
    have behind : ∀ j x, rs[j]? = some x → k < j → listed.getD j false = false ∨ Apart r x ∨ (k = kL ∧ j = kW ∧ ApartW r x) := fun j x hj hjk => by
      obtain ⟨m, hm, hp⟩ := apartR2_spec hap j x hj
      rcases hp k r (by simpa using hrk) (by simpa using hjk) with h | h | h
      · left
        cases hb : listed.getD j false with
        | false => rfl
        | true =>
          have := an1 j m hm hb k h
          rw [hkn] at this
          cases this
      · exact .inr (.inl h)
      · exact .inr (.inr ⟨h.1, by simpa using h.2.1, h.2.2⟩)
    have behindW : ∀ j x, rs[j]? = some x → k < j → listed.getD j false = false ∨ ApartW r x := fun j x hj hjk => by
      rcases behind j x hj hjk with h | h | h
      · exact .inl h
      · exact .inr h.weak
      · exact .inr h.2.2
    have claimT : ∀ t, t ∈ r.us → lkS (look φ) (fun j => rs[j]?) (fun j => listed.getD j false) rs.length t = look φk t := fun t ht => by
      rw [hφk t, ← lkS_cut (n := rs.length) (by omega)]
      refine lkS_congr fun j x hj hx hd => ?_
      rcases Nat.lt_trichotomy j k with h | h | h
      · rcases before j x hx h with h' | h'
        · rw [h']; simp [h]
        · exact absurd ht (h'.d2 t hd)
      · subst h; rw [hkn]; simp
      · rcases behindW j x hx h with h' | h'
        · rw [h']; simp; omega
        · exact absurd ht (h'.d3 t hd)
    have claimH : ¬ (k = kL ∧ listed.getD kW false = true) → ∀ i, i ∈ r.rd ∨ i ∈ r.wr.map (·.1) → heS (hp L) (fun j => rs[j]?) (fun j => listed.getD j false) rs.length i = hp Lk i := fun hw i hi => by
      rw [hLk, ← heS_cut (n := rs.length) (by omega)]
      refine heS_congr fun j x hj hx hd => ?_
      rcases Nat.lt_trichotomy j k with h | h | h
      · rcases before j x hx h with h' | h'
        · rw [h']; simp [h]
        · rcases hi with hi | hi
          · exact absurd hi (h'.w2 i hd)
          · exact absurd hi (h'.w1 i hd)
      · subst h; rw [hkn]; simp
      · rcases behind j x hx h with h' | h' | h'
        · rw [h']; simp; omega
        · rcases hi with hi | hi
          · exact absurd hi (h'.w3 i hd)
          · exact absurd hd (h'.w1 i hi)
        · obtain ⟨e1, e2, _⟩ := h'
          have : listed.getD j false = false := by
            cases hb : listed.getD j false with
            | false => rfl
            | true => exact absurd ⟨e1, by rw [← e2]; exact hb⟩ hw
          rw [this]; simp; omega
    have lateT : k = kL → listed.getD kW false = true → ∀ t, t ∈ r.us → lkS (look φ) (fun j => rs[j]?) (fun j => listed.getD j false) rs.length t = look φ' t := fun e1 e2 t ht => by
      have er : r = rL := by rw [e1, hrL] at hrk; injection hrk with hrk; exact hrk.symm
      rw [hφ' t]
      refine lkS_congr fun j x hj hx hd => ?_
      rcases Nat.lt_trichotomy j k with h | h | h
      · rcases before j x hx h with h' | h'
        · exact h'
        · exact absurd ht (h'.d2 t hd)
      · subst h
        rw [hrk] at hx; injection hx with hx; subst hx
        exact absurd ht (by rw [er] at hd ⊢; exact (hlt kL rL hrL (Nat.le_refl _)).1 t hd)
      · exact absurd ht (by rw [er]; exact (hlt j x hx (by omega)).1 t hd)
    have lateH : k = kL → listed.getD kW false = true → ∀ i, i ∈ r.rd ∨ i ∈ r.wr.map (·.1) → heS (hp L) (fun j => rs[j]?) (fun j => listed.getD j false) rs.length i = hp L' i := fun e1 e2 i hi => by
      have er : r = rL := by rw [e1, hrL] at hrk; injection hrk with hrk; exact hrk.symm
      have hw0 : r.wr = [] := by rw [er]; exact hwL
      have hi : i ∈ r.rd := by
        rcases hi with hi | hi
        · exact hi
        · rw [hw0] at hi; cases hi
      rw [hL']
      refine heS_congr fun j x hj hx hd => ?_
      rcases Nat.lt_trichotomy j k with h | h | h
      · rcases before j x hx h with h' | h'
        · exact h'
        · exact absurd hi (h'.w2 i hd)
      · subst h
        rw [hrk] at hx; injection hx with hx; subst hx
        rw [hw0] at hd; cases hd
      · by_cases hjw : j = kW
        · rw [hjw]; exact e2
        · exact absurd hi (by rw [er]; exact (hlt j x hx (by omega)).2 (by omega) hjw i hd)
    have claimH2 : heS (hp L) (fun j => rs[j]?) (fun j => (listed.setIfInBounds k true).getD j false) rs.length = wrs (heS (hp L) (fun j => rs[j]?) (fun j => listed.getD j false) rs.length) r.wr := funext fun i => by
      by_cases hi : i ∈ r.wr.map (·.1)
      · refine heS_at (k := k) (r := r) hrk hi (by rw [hS' k]; simp) (by omega) fun j x h1 h2 hx hd => ?_
        rw [hS' j]
        rcases behindW j x hx h1 with h' | h'
        · rw [h']; simp; omega
        · exact absurd hd (h'.w1 i hi)
      · rw [wrs_out _ hi]
        refine heS_congr fun j x hj hx hd => ?_
        rw [hS' j]
        by_cases h : j = k
        · subst h
          rw [hrk] at hx
          injection hx with hx
          subst hx
          exact absurd hd hi
        · simp [h]
    have claimT2 : ∀ t, lkS (look φ) (fun j => rs[j]?) (fun j => (listed.setIfInBounds k true).getD j false) rs.length t = if r.dst = some t then some r.v else lkS (look φ) (fun j => rs[j]?) (fun j => listed.getD j false) rs.length t := fun t => by
      by_cases hd : r.dst = some t
      · rw [if_pos hd]
        refine lkS_at (k := k) (r := r) hrk hd (by rw [hS' k]; simp) (by omega) fun j x h1 h2 hx hdx => ?_
        rw [hS' j]
        rcases behindW j x hx h1 with h' | h'
        · rw [h']; simp; omega
        · exact absurd hdx (h'.d1 t hd)
      · rw [if_neg hd]
        refine lkS_congr fun j x hj hx hdx => ?_
        rw [hS' j]
        by_cases h : j = k
        · subst h
          rw [hrk] at hx
          injection hx with hx
          subst hx
          exact absurd hdx hd
        · simp [h]
    obtain ⟨hd1, hd2⟩ := opG_dst hg
    have key : ∀ {φ0 : Fr} {L0 : List HB} {c0 : Prop}, opG T C N ops.toList φ0 L0 o = some (c0, r) → c0 → (∀ i, i ∈ r.rd ∨ i ∈ r.wr.map (·.1) → heS (hp L) (fun j => rs[j]?) (fun j => listed.getD j false) rs.length i = hp L0 i) → (∀ t, t ∈ r.us → lkS (look φ) (fun j => rs[j]?) (fun j => listed.getD j false) rs.length t = look φ0 t) →
        wpOp P ops Q k (Inv w0 M E n0 N D ops (look φ) (hp L) rs (listed.setIfInBounds k true)) a w := fun {φ0 L0 c0} hg0 hc0 clH clT => by
      refine stepG hC hT ho hg0 hc0 R (fun i hi => clH i (.inl hi)) (fun p hp => clH p.1 (.inr (List.mem_map_of_mem hp))) (fun t ht v hv => F t v (by rw [clT t ht]; exact hv)) fun β' w' u k1 k2 k3 k4 k5 => ?_
      refine ⟨by simp [hI.sz], fun j o' hj hjS e he => ?_, ⟨β', fun i hi => ?_, ?_, fun t v hv => ?_⟩, fun i hi => ?_, by rw [put_size]; exact hI.size, by rw [put_defers]; exact hI.defers⟩
      · rw [hS'] at hjS ⊢
        by_cases h : j = k
        · subst h
          rw [ho] at hj
          injection hj with hj
          subst hj
          simp [hpre' e he]
        · simp [h] at hjS
          have := hI.closed j o' hj (by simpa using hjS) e he
          simp [this]
      · rw [← k1 i (hI.born i hi)]; exact hE i hi
      · rw [claimH2]; exact k3
      · rw [claimT2] at hv
        rw [claimH2, put_get hI.size hd2, ← hd1]
        by_cases h : r.dst = some t
        · simp only [h, if_true, Option.some.injEq] at hv ⊢
          subst hv
          exact ⟨k4, k5⟩
        · simp only [h, if_false] at hv ⊢
          obtain ⟨h1, h2⟩ := F t v hv
          exact ⟨h1.more k2, by rw [h2]; exact h1.den k1⟩
      · rw [claimH2]; exact k2 i (hI.born i hi)
    by_cases hw : k = kL ∧ listed.getD kW false = true
    · have er : r = rL := by rw [hw.1, hrL] at hrk; injection hrk with hrk; exact hrk.symm
      have eo : o = oL := by rw [hw.1, hoL] at ho; injection ho with ho; exact ho.symm
      exact key (by rw [er, eo]; exact hgL) hcL (lateH hw.1 hw.2) (lateT hw.1 hw.2)
    · exact key hg (hck hc) (claimH hw) claimT
theorem wpOps_of_drawn2 {kL kW : Nat} {oL : Oper} {c2 : Prop} {rL : Rc} (hm : P.follows .mixedOrders = true) (hC : ∀ f S, C f = some S → CallOk P f S) (hT : TabOk P T) {ops : Array Oper} {c : Prop} {rs : List Rc} (hr : runR T C N ops.toList φ L ops.toList = some (c, rs, φ', L')) (hok : regionOk2 kL kW ops.toList rs = true) (hoL : ops[kL]? = some oL) (hrL : rs[kL]? = some rL) (hgL : opG T C N ops.toList φ' L' oL = some (c2, rL)) (hcL : c2) (hc : c) {a : Act} {w : World}
    (hS : St w0 M E n0 N D φ L a w) (hQ : ∀ a w, St w0 M E n0 N D φ' L' a w → Q .normal a w) (t : Nat) : wpOps P ops Q (Region.schedule (P.follows .mixedOrders) ops t) a { w with drawn := w.drawn + 1 } := by
  simp only [Region.schedule, hm, Bool.true_or, if_true]
  exact wpAny_sound ops.size t _ a _ (wpAny_drawn2 hm hC hT hr hok hoL hrL hgL hcL hc hS hQ)
theorem WF.drawn2 (kL kW : Nat) {oL : Oper} {c2 : Prop} {rL : Rc} (hm : P.follows .mixedOrders = true) (hC : ∀ f S, C f = some S → CallOk P f S) (hT : TabOk P T) {id : Nat} {ops : Array Oper} {c : Prop} {rs : List Rc} (hd : noDefer ops.toList = true) (hr : runR T C N ops.toList φ L ops.toList = some (c, rs, φ', L')) (hok : regionOk2 kL kW ops.toList rs = true) (hoL : ops[kL]? = some oL) (hrL : rs[kL]? = some rL) (hgL : opG T C N ops.toList φ' L' oL = some (c2, rL)) (hcL : c2) (hc : c) (h : At w0 M E n0 N D φ' L' (Q .normal)) : WF ro n P (.region id ops true) w0 M E n0 N D φ L Q :=
  fun a w hS => by
    refine wpIn_mono (wpIn_region_draw fun t => wpOps_in hd normSt_out (wpOps_of_drawn2 (Q := NormSt w0 M E n0 N D φ' L') hm hC hT hr hok hoL hrL hgL hcL hc hS (fun a w h => h) t)) fun e a w he => ?_
    cases e <;> first | exact he.elim | exact h a w he
end
end Go.Proofs.YtjliakjbdcplcaaGreat.Vm
end

section
namespace Go.Proofs.YtjliakjbdcplcaaGreat.Vm
open Go.RowKit
attribute [local push_cast] runR opG gtmp gval gus opX tmpsOf tm tmO tmP restr look look2 tab tys zs ets eqB eqBL allB numOf ieq Int.cast_ofNat_Int Int.ofNat_zero beq_true beq_false frameOf ev evL ofV opV loadV noW pushF wrsL setH allBorn allGone HB.born HB.isGone HB.val SV.plain dstOk hp nav fitsT SV.size sizeL SV.isAgg TK.size TK.agg bin binE binN binI arN arI cmpN cmpI keq kn narrow callV storeV setp fillV buildV buildSliceV makeV sliceV appendV appendFV slice3V copyV List.isEmpty_nil srcV evO asN ite_t ite_f ite_bool ite_int ite_nat maxV v_beq v_ble v_blt cond_true cond_false List.getElem?_cons_zero List.getElem?_cons_succ List.getD_cons_zero List.getD_cons_succ List.getD_nil List.length_cons List.length_nil List.take_succ_cons List.take_zero List.set_cons_zero List.set_cons_succ List.cons_append List.nil_append List.append_assoc List.replicate_succ List.replicate_zero Nat.zero_add Nat.add_zero decide_true decide_false Bool.true_and Bool.and_true Bool.false_and Bool.and_false Bool.true_or Bool.or_true Bool.false_or Bool.or_false beq_self_eq_true Bool.or_self Nat.lt_irrefl Nat.not_lt_zero Nat.le_refl Option.getD_some Option.getD_none BEq.rfl Bool.not_true Bool.not_false Bool.cond_true_left Bool.cond_false_right prS sndsS i64S nav_ins nav_ins0 nav_ins1 nav_ins2 nav_ins3 nav_ins4 nav_snd nav_snd0 nav_snd1 nav_snd2 isIns_insS insOf_insS isSnd_sndS sndOf_sndS isI_int isI_nat iOf JM JE JB prc_eta DnI.at_ DnI.v dnR sRunG sRunB rCF rH2 cloP dnI nodupN memN evtS inR inN
set_option linter.unusedVariables false
set_option linter.unusedSimpArgs false
set_option maxRecDepth 100000
set_option maxHeartbeats 4000000
def dnS (D : Dn) (i c q j : Nat) : SV := dnR D.p.id D.p.draws D.p.seq D.p.P.length D.p.cells.length D.p.ports.length D.sent.length D.used i c q j
def dnB (D : Dn) (i c q j : Nat) : HB := .own 82 (dnS D i c q j) true
def evO_ (l : List Evt) : HB := .own 29 (.arr l.length 5 (evtsS l)) false
theorem less_appE {t n : Nat} {σ : Nat → Nat} (S : List Evt) (x : Evt) (hn : S.length = n) {g : Nat → SV} {xv z : SV} (hg : g = fun q => SV.ite (decide (q < n)) (evtS (S.getD q ⟨0, 0, 0, 0, 0⟩)) ([xv].getD (q - n) z)) (hx : ∀ β, xv.cl β = x.cells) :
    Less (.own t (.arr (n + 1) 5 g) false) ((HB.own t (.arr (n + 1) 5 (evtsS (S ++ [x]))) false).ren σ) := by
  have e : (HB.own t (.arr (n + 1) 5 (evtsS (S ++ [x]))) false).ren σ = .own t (.arr (n + 1) 5 (evtsS (S ++ [x]))) false := by
    simp only [HB.ren, SV.ren]; rw [evtsS_ren]
  rw [e]
  refine .val (fun β => arrCl fun q hq => ?_) (fun n1 k1 f1 e => by injection e with e1 e2 e3; subst e1 e2; exact ⟨_, rfl⟩) (fun n1 k1 f1 e => by injection e with e1 e2 e3; subst e1 e2; exact ⟨_, rfl⟩)
  subst hg hn
  dsimp only
  rw [ite_eq]
  by_cases h : q < S.length
  · simp only [h, decide_true, cond_true]
    unfold evtsS
    rw [List.getD_eq_getElem?_getD, List.getD_eq_getElem?_getD, List.getElem?_append_left h]
  · have hq' : q = S.length := by omega
    subst hq'
    simp only [h, decide_false, cond_false, Nat.sub_self, List.getD_cons_zero, hx]
    unfold evtsS
    rw [List.getD_eq_getElem?_getD, List.getElem?_append_right (Nat.le_refl _), Nat.sub_self, isEvt_cl (isEvt_evtS _), evtOf_evtS]; rfl
def cHaG : FuncId → Option Spec := look2 [(13, sRunG), (125, rCF), (127, rH2)]
theorem cHaG_ok : ∀ f S, cHaG f = some S → CallOk Tryz.prog f S := allOk_spec ⟨sRunG_ok, rCF_ok, rH2_ok, trivial⟩
def cHaN : FuncId → Option Spec := look2 [(13, sRunG)]
theorem cHaN_ok : ∀ f S, cHaN f = some S → CallOk Tryz.prog f S := allOk_spec ⟨sRunG_ok, trivial⟩
def cHaB : FuncId → Option Spec := look2 [(13, sRunB)]
theorem cHaB_ok : ∀ f S, cHaB f = some S → CallOk Tryz.prog f S := allOk_spec ⟨sRunB_ok, trivial⟩
structure HG (r : Rul) (p : Prc) (e : Evt) : Prop where
  hr : r.rightB = true
  hp : p.rightB = true
  ok : ∀ x ∈ p.P, x.ok
  t0 : 0 ≤ e.time
  t1 : e.time ≤ 281474976710656
theorem HG.si {r : Rul} {p : Prc} {e : Evt} (h : HG r p e) (hb : (hR r p e).bad = 0) : SI p.P (hV r p e.time) p.cells p.draws (hR r p e).tr (hR r p e).s ∧ SG p.P (hR r p e).s := by
  have hO := proc_open (e := e) h.hr h.hp ⟨h.t0, h.t1⟩
  have hf := of_decide_eq_true (show decide _ = true from h.hr)
  have e1 : hR r p e = runA p.P (hV r p e.time) r.fuel.toNat (hB p e) Ins0 [] 0 := runO_of hO hf.2.2.1 hf.2.2.2
  have hPG : PG p.P := ⟨h.ok, (openE_zero hO).1⟩
  have hSG : SG p.P (hB p e) := SG.of (openE_zero hO).2.2 (by simp [hB, begS])
  refine ⟨?_, by rw [e1]; exact runA_good hPG _ _ _ _ _ hSG⟩
  rw [e1] at hb ⊢
  exact si_run hPG _ _ _ _ _ ⟨(fun k hk => by cases hk), rfl, (by simp [hB, begS, cnt]), rfl, (by rw [show (hB p e).cells = p.cells from rfl, chg_self]; exact Nat.zero_le _), (fun y hy => by cases hy)⟩ hSG hb
theorem HG.len {r : Rul} {p : Prc} {e : Evt} (h : HG r p e) : ((hR r p e).tr.length : Int) ≤ r.fuel := by
  have hO := proc_open (e := e) h.hr h.hp ⟨h.t0, h.t1⟩
  have hf := of_decide_eq_true (show decide _ = true from h.hr)
  exact runO_le hO hf.2.2.1 hf.2.2.2
theorem han_bad (r : Rul) (D : Dn) (e : Evt) (hG : HG r D.p e) (hs : D.sent.length ≤ 1000000) (hu : D.used ≤ 1000000000) (hb : (hR r D.p e).bad ≠ 0) : LitOk Tryz.prog 96 [.ptr 1 [], .agg [.int .u64 r.seed, .int .i64 r.ahead, .int .i64 r.fuel], evtS e]
    [.gone, dnB D 2 3 4 5, .ro (.arr D.p.P.length 5 (prS D.p.P)), .ro (.arr D.p.cells.length 1 (i64S D.p.cells)), .ro (.arr D.p.ports.length 1 (i64S D.p.ports)), evO_ D.sent]
    (.int .i64 (hR r D.p e).bad) [.gone, dnB D 2 3 4 5, .gone, .gone, .gone, evO_ D.sent] := by
  obtain ⟨p, sent, used⟩ := D
  dsimp only at hG hs hu ⊢
  obtain ⟨R, hRR⟩ : ∃ R, hR r p e = R := ⟨_, rfl⟩
  have hRO : runO p.P ⟨r.seed, p.id, p.ports.length, r.ahead, e.time⟩ (begS e.value e.time e.source p.cells p.draws) r.fuel = R := hRR
  obtain ⟨h1, ⟨h2, h3⟩, h4, h5, h6, h7, h8, h9, h10⟩ := rightB_iff.1 hG.hp
  have hok := hG.ok
  have hPl := (right_last' h1).2.1
  have hn : p.P.length ≤ 1000000 := by omega
  have hc : p.cells.length ≤ 1000000 := by omega
  have t0 := hG.t0
  have t1 := hG.t1
  have hlen := hG.len
  have hf := of_decide_eq_true (show decide _ = true from hG.hr)
  rw [hRR] at hb ⊢

  refine litOkM (fn := Tryz.f96) 6 142 0 rfl rfl rfl rfl rfl (by simp only [StableL, Stable, hp, DnI.at_, dnS, dnR, i64S, prS, insS, sndsS, sndS, evtsS, evtS, prO, i64O, inO, cB, sB, HB.stable]; simp [HB.born, dnB, dnS, dnR, evO_, evtS]) rfl fun w0 M E hro => ?_
  repeat' (first | refine Ctl.h ?_ | ((with_reducible intro hif); first | (focus (cases hif; done)) | (simp only [JH] at hif; try (exfalso; omega)) | (try (exfalso; omega))) | ((first | ((with_reducible apply J22 cHaB_ok tab_ok); (· rfl)) | ((with_reducible apply J23 fol cHaB_ok tab_ok); (· rfl)) | with_reducible apply J24); (· (simp only [push_cast, ↓JP, Nat.reduceAdd, Nat.reduceEqDiff, Nat.reduceLT, Nat.reduceMul, Nat.reduceLeDiff, reduceCtorEq, reduceIte, ↓JK, dnB, dnS, evO_, cHaB, hRO, hb]; rfl)); (try kernel_rfl); (try exact Vm.b110)) | fail)
  apply At.endsPick [0, 1, 2, 3, 4, 5] tab_ok (fn := Tryz.f96) (rs := [.tmp 6]) Anc.refl hro (Nat.le_of_ble_eq_true rfl) rfl
  · exact Vm.b11
  · exact Vm.b26
  · rfl
  · rfl
  · rfl
  · exact Vm.b40
  · rfl
  · exact Vm.b106
  · exact Vm.b10
  · exact fun β => rfl
  · exact Vm.b106
theorem han_gone (r : Rul) (D : Dn) (e : Evt) (hG : HG r D.p e) (hs : D.sent.length ≤ 1000000) (hu : D.used ≤ 1000000000) (hb : (hR r D.p e).bad = 0) (hg : (hR r D.p e).s.sends.any (gonB D.p.ports) = true) : LitOk Tryz.prog 96 [.ptr 1 [], .agg [.int .u64 r.seed, .int .i64 r.ahead, .int .i64 r.fuel], evtS e]
    [.gone, dnB D 2 3 4 5, .ro (.arr D.p.P.length 5 (prS D.p.P)), .ro (.arr D.p.cells.length 1 (i64S D.p.cells)), .ro (.arr D.p.ports.length 1 (i64S D.p.ports)), evO_ D.sent]
    (.int .i64 285) [.gone, dnB D 2 3 4 5, .gone, .gone, .gone, evO_ D.sent] := by
  obtain ⟨p, sent, used⟩ := D
  dsimp only at hG hs hu ⊢
  obtain ⟨R, hRR⟩ : ∃ R, hR r p e = R := ⟨_, rfl⟩
  have hRO : runO p.P ⟨r.seed, p.id, p.ports.length, r.ahead, e.time⟩ (begS e.value e.time e.source p.cells p.draws) r.fuel = R := hRR
  obtain ⟨h1, ⟨h2, h3⟩, h4, h5, h6, h7, h8, h9, h10⟩ := rightB_iff.1 hG.hp
  have hok := hG.ok
  have hPl := (right_last' h1).2.1
  have hn : p.P.length ≤ 1000000 := by omega
  have hc : p.cells.length ≤ 1000000 := by omega
  have t0 := hG.t0
  have t1 := hG.t1
  have hlen := hG.len
  have hf := of_decide_eq_true (show decide _ = true from hG.hr)
  have hSI := hG.si hb
  rw [hRR] at hb hSI hlen
  obtain ⟨hI, hGR⟩ := hSI
  have hcR := hGR.c1
  have hnR := hGR.n1
  have hS : ∀ s ∈ R.s.sends, 0 ≤ s.port ∧ s.port.toNat < p.ports.length := fun s hs => by
    have := hI.s s hs
    have h := this.2.1
    change s.port < (p.ports.length : Int) at h
    omega
  rw [hRR] at hg

  refine litOkM (fn := Tryz.f96) 6 142 0 rfl rfl rfl rfl rfl (by simp only [StableL, Stable, hp, DnI.at_, dnS, dnR, i64S, prS, insS, sndsS, sndS, evtsS, evtS, prO, i64O, inO, cB, sB, HB.stable]; simp [HB.born, dnB, dnS, dnR, evO_, evtS]) rfl fun w0 M E hro => ?_
  repeat' (first | refine Ctl.h ?_ | ((with_reducible intro hif); first | (focus (cases hif; done)) | (simp only [JH] at hif; try (exfalso; omega)) | (try (exfalso; omega))) | ((first | ((with_reducible apply J22 cHaG_ok tab_ok); (· rfl)) | ((with_reducible apply J23 fol cHaG_ok tab_ok); (· rfl)) | with_reducible apply J24); (· (simp only [push_cast, ↓JP, Nat.reduceAdd, Nat.reduceEqDiff, Nat.reduceLT, Nat.reduceMul, Nat.reduceLeDiff, reduceCtorEq, reduceIte, ↓JK, dnB, dnS, evO_, cHaG, hRO, hb, hg]; rfl)); (try kernel_rfl); (try exact Vm.b110)) | fail)
  apply At.endsPick [0, 1, 2, 3, 4, 5] tab_ok (fn := Tryz.f96) (rs := [.tmp 6]) Anc.refl hro (Nat.le_of_ble_eq_true rfl) rfl
  · exact Vm.b11
  · exact Vm.b26
  · rfl
  · rfl
  · rfl
  · exact Vm.b40
  · rfl
  · exact Vm.b106
  · exact Vm.b10
  · exact fun β => rfl
  · exact Vm.b106
theorem han_seq (r : Rul) (D : Dn) (e : Evt) (hG : HG r D.p e) (hs : D.sent.length ≤ 1000000) (hu : D.used ≤ 1000000000) (hb : (hR r D.p e).bad = 0) (hg : (hR r D.p e).s.sends.any (gonB D.p.ports) = false) (hq : 4294967296 < D.p.seq + (hR r D.p e).s.sends.length) : LitOk Tryz.prog 96 [.ptr 1 [], .agg [.int .u64 r.seed, .int .i64 r.ahead, .int .i64 r.fuel], evtS e]
    [.gone, dnB D 2 3 4 5, .ro (.arr D.p.P.length 5 (prS D.p.P)), .ro (.arr D.p.cells.length 1 (i64S D.p.cells)), .ro (.arr D.p.ports.length 1 (i64S D.p.ports)), evO_ D.sent]
    (.int .i64 284) [.gone, dnB D 2 3 4 5, .gone, .gone, .gone, evO_ D.sent] := by
  obtain ⟨p, sent, used⟩ := D
  dsimp only at hG hs hu ⊢
  obtain ⟨R, hRR⟩ : ∃ R, hR r p e = R := ⟨_, rfl⟩
  have hRO : runO p.P ⟨r.seed, p.id, p.ports.length, r.ahead, e.time⟩ (begS e.value e.time e.source p.cells p.draws) r.fuel = R := hRR
  obtain ⟨h1, ⟨h2, h3⟩, h4, h5, h6, h7, h8, h9, h10⟩ := rightB_iff.1 hG.hp
  have hok := hG.ok
  have hPl := (right_last' h1).2.1
  have hn : p.P.length ≤ 1000000 := by omega
  have hc : p.cells.length ≤ 1000000 := by omega
  have t0 := hG.t0
  have t1 := hG.t1
  have hlen := hG.len
  have hf := of_decide_eq_true (show decide _ = true from hG.hr)
  have hSI := hG.si hb
  rw [hRR] at hb hSI hlen
  obtain ⟨hI, hGR⟩ := hSI
  have hcR := hGR.c1
  have hnR := hGR.n1
  have hS : ∀ s ∈ R.s.sends, 0 ≤ s.port ∧ s.port.toNat < p.ports.length := fun s hs => by
    have := hI.s s hs
    have h := this.2.1
    change s.port < (p.ports.length : Int) at h
    omega
  rw [hRR] at hg hq
  dsimp only at hq

  refine litOkM (fn := Tryz.f96) 6 142 0 rfl rfl rfl rfl rfl (by simp only [StableL, Stable, hp, DnI.at_, dnS, dnR, i64S, prS, insS, sndsS, sndS, evtsS, evtS, prO, i64O, inO, cB, sB, HB.stable]; simp [HB.born, dnB, dnS, dnR, evO_, evtS]) rfl fun w0 M E hro => ?_
  repeat' (first | refine Ctl.h ?_ | ((with_reducible intro hif); first | (focus (cases hif; done)) | (simp only [JH] at hif; try (exfalso; omega)) | (try (exfalso; omega))) | ((first | ((with_reducible apply J22 cHaG_ok tab_ok); (· rfl)) | ((with_reducible apply J23 fol cHaG_ok tab_ok); (· rfl)) | with_reducible apply J24); (· exact Vm.b111); (try kernel_rfl); (try exact Vm.b110)) | fail)
  apply At.endsPick [0, 1, 2, 3, 4, 5] tab_ok (fn := Tryz.f96) (rs := [.tmp 6]) Anc.refl hro (Nat.le_of_ble_eq_true rfl) rfl
  · exact Vm.b11
  · exact Vm.b26
  · rfl
  · rfl
  · rfl
  · exact Vm.b40
  · rfl
  · exact Vm.b106
  · exact Vm.b10
  · exact fun β => rfl
  · exact Vm.b106
theorem han_ok (r : Rul) (D : Dn) (e : Evt) (hG : HG r D.p e) (hs : D.sent.length ≤ 1000000) (hu : D.used ≤ 1000000000) (hb : (hR r D.p e).bad = 0) (hg : (hR r D.p e).s.sends.any (gonB D.p.ports) = false) (hq : ¬ 4294967296 < D.p.seq + (hR r D.p e).s.sends.length) : LitOk Tryz.prog 96 [.ptr 1 [], .agg [.int .u64 r.seed, .int .i64 r.ahead, .int .i64 r.fuel], evtS e]
    [.gone, dnB D 2 3 4 5, .ro (.arr D.p.P.length 5 (prS D.p.P)), .ro (.arr D.p.cells.length 1 (i64S D.p.cells)), .ro (.arr D.p.ports.length 1 (i64S D.p.ports)), evO_ D.sent]
    (.int .i64 0) [.gone, dnB (hS r D e) 2 6 4 7, .gone, .gone, .gone, .gone, cB (hR r D.p e).s, evO_ (hS r D e).sent] := by
  obtain ⟨p, sent, used⟩ := D
  dsimp only at hG hs hu ⊢
  obtain ⟨R, hRR⟩ : ∃ R, hR r p e = R := ⟨_, rfl⟩
  have hRO : runO p.P ⟨r.seed, p.id, p.ports.length, r.ahead, e.time⟩ (begS e.value e.time e.source p.cells p.draws) r.fuel = R := hRR
  obtain ⟨h1, ⟨h2, h3⟩, h4, h5, h6, h7, h8, h9, h10⟩ := rightB_iff.1 hG.hp
  have hok := hG.ok
  have hPl := (right_last' h1).2.1
  have hn : p.P.length ≤ 1000000 := by omega
  have hc : p.cells.length ≤ 1000000 := by omega
  have t0 := hG.t0
  have t1 := hG.t1
  have hlen := hG.len
  have hf := of_decide_eq_true (show decide _ = true from hG.hr)
  have hSI := hG.si hb
  rw [hRR] at hb hSI hlen
  obtain ⟨hI, hGR⟩ := hSI
  have hcR := hGR.c1
  have hnR := hGR.n1
  have hS : ∀ s ∈ R.s.sends, 0 ≤ s.port ∧ s.port.toNat < p.ports.length := fun s hs => by
    have := hI.s s hs
    have h := this.2.1
    change s.port < (p.ports.length : Int) at h
    omega
  rw [hRR] at hg hq
  dsimp only at hq
  have hHS : Vm.hS r ⟨p, sent, used⟩ e = ⟨{ p with cells := R.s.cells, draws := R.s.draws, seq := p.seq + R.s.sends.length }, sent ++ sentL p e.time p.seq R.s.sends, used + R.tr.length⟩ := by unfold Vm.hS; dsimp only; rw [hRR]
  rw [hHS, hRR]

  refine litOkM (fn := Tryz.f96) 6 142 0 rfl rfl rfl rfl rfl (by simp only [StableL, Stable, hp, DnI.at_, dnS, dnR, i64S, prS, insS, sndsS, sndS, evtsS, evtS, prO, i64O, inO, cB, sB, HB.stable]; simp [HB.born, dnB, dnS, dnR, evO_, evtS]) rfl fun w0 M E hro => ?_
  repeat' (first | refine Ctl.h ?_ | ((with_reducible intro hif); first | (focus (cases hif; done)) | (simp only [JH] at hif; try (exfalso; omega)) | (try (exfalso; omega))) | ((first | ((with_reducible apply J22 cHaG_ok tab_ok); (· rfl)) | ((with_reducible apply J23 fol cHaG_ok tab_ok); (· rfl)) | with_reducible apply J24); (· exact Vm.b111); (try kernel_rfl); (try exact Vm.b110)) | fail)
  have hz : Less (.own 82 (dnR p.id p.draws p.seq p.P.length p.cells.length p.ports.length sent.length used 2 3 4 13) true) (.own 82 (dnR p.id p.draws (p.seq + ((0 : Nat) : Int)) p.P.length p.cells.length p.ports.length (sent.length + 0) used 2 3 4 13) true) := by rw [show p.seq + ((0 : Nat) : Int) = p.seq from Int.add_zero _]; exact .same _
  have hz2 : Less (.own 29 (.arr sent.length 5 (evtsS sent)) false) (.own 29 (.arr (sent.length + 0) 5 (evtsS (sent ++ sentL p e.time p.seq (R.s.sends.take 0)))) false) := by rw [List.take_zero, show sentL p e.time p.seq [] = [] from rfl, List.append_nil]; exact .same _
  refine At.pick (L2 := [.gone, (.own 82 (dnR p.id p.draws p.seq p.P.length p.cells.length p.ports.length sent.length used 2 3 4 13) true), .ro (.arr p.P.length 5 (prS p.P)), .ro (.arr p.cells.length 1 (i64S p.cells)), .ro (.arr p.ports.length 1 (i64S p.ports)), .gone, .own 160 (.ptr 1 []) true, .own 65 (.agg [.int .u64 r.seed, .int .i64 r.ahead, .int .i64 r.fuel]) true, .own 29 (evtS e) true, .own 25 (.agg [.int .u64 r.seed, .int .i64 p.id, .nat .i64 p.ports.length, .int .i64 r.ahead, .int .i64 e.time]) true, cB R.s, sB R.s, .own 42 (.agg [.nat .i64 R.tr.length, .int .i64 R.at_, .sl 10 10 [] 1 0 R.s.cells.length none, .int .i64 R.s.draws, .sl 11 11 [] 3 0 R.s.sends.length none]) true, .own 29 (.arr sent.length 5 (evtsS sent)) false]) (φ2 := [(3, .ptr 6 []), (4, .ptr 7 []), (5, .ptr 8 []), (8, .ptr 12 []), (10, .fn 127 [.ptr 6 []]), (78, .sl 11 11 [] 3 0 R.s.sends.length none), (79, .nat .i64 R.s.sends.length), (80, .nat .i64 0)]) [0, 1, 2, 3, 4, 5, 6, 7, 8, 9, 10, 11, 12, 5] rfl rfl rfl ?_ rfl ?_ ?_ ?_ rfl ?_
  · exact Vm.b40
  · exact Vm.b106
  · exact Vm.b67
  · exact Vm.b106
  refine WF.loopAt (fun (k : Nat) => k ≤ R.s.sends.length) (fun (k : Nat) => [(3, .ptr 6 []), (4, .ptr 7 []), (5, .ptr 8 []), (8, .ptr 12 []), (10, .fn 127 [.ptr 6 []]), (78, .sl 11 11 [] 3 0 R.s.sends.length none), (79, .nat .i64 R.s.sends.length), (80, .nat .i64 k)]) (fun (k : Nat) => [.gone, (.own 82 (dnR p.id p.draws (p.seq + ((k : Nat) : Int)) p.P.length p.cells.length p.ports.length (sent.length + k) used 2 3 4 13) true), .ro (.arr p.P.length 5 (prS p.P)), .ro (.arr p.cells.length 1 (i64S p.cells)), .ro (.arr p.ports.length 1 (i64S p.ports)), .gone, .own 160 (.ptr 1 []) true, .own 65 (.agg [.int .u64 r.seed, .int .i64 r.ahead, .int .i64 r.fuel]) true, .own 29 (evtS e) true, .own 25 (.agg [.int .u64 r.seed, .int .i64 p.id, .nat .i64 p.ports.length, .int .i64 r.ahead, .int .i64 e.time]) true, cB R.s, sB R.s, .own 42 (.agg [.nat .i64 R.tr.length, .int .i64 R.at_, .sl 10 10 [] 1 0 R.s.cells.length none, .int .i64 R.s.draws, .sl 11 11 [] 3 0 R.s.sends.length none]) true, .own 29 (.arr (sent.length + k) 5 (evtsS (sent ++ sentL p e.time p.seq (R.s.sends.take k)))) false]) (fun (k : Nat) => R.s.sends.length - k) 0 (Nat.zero_le _) ?_ ?_ rfl ?_ ?_ rfl ?_
  · exact Vm.b5
  · exact Vm.b6
  · exact Vm.b106
  · exact Vm.b106
  intro k hk
  by_cases hkl : k < R.s.sends.length
  · obtain ⟨y, hY⟩ : ∃ y, R.s.sends.getD k ⟨0, 0, 0⟩ = y := ⟨_, rfl⟩
    have hym : y ∈ R.s.sends := by
      rw [← hY, List.getD_eq_getElem?_getD, List.getElem?_eq_getElem hkl]; exact List.getElem_mem hkl
    obtain ⟨s0, s1⟩ := hS y hym
    obtain ⟨_, _, s2, s3⟩ := hI.s y hym
    have s2 : r.ahead ≤ y.delay := s2
    have s3 : y.delay ≤ 281474976710656 - e.time := s3
    have htk : R.s.sends.take (k + 1) = R.s.sends.take k ++ [y] := by
      rw [← hY, List.getD_eq_getElem?_getD, List.getElem?_eq_getElem hkl, List.take_add_one, List.getElem?_eq_getElem hkl]; rfl
    have htl : (R.s.sends.take k).length = k := by rw [List.length_take]; omega
    have hST : sent ++ sentL p e.time p.seq (R.s.sends.take (k + 1)) = (sent ++ sentL p e.time p.seq (R.s.sends.take k)) ++ [⟨e.time + y.delay, p.id, p.seq + (k : Int), p.ports.getD y.port.toNat 0, y.value⟩] := by
      rw [htk, sentL_app, htl, List.append_assoc]; rfl
    have hSl : (sent ++ sentL p e.time p.seq (R.s.sends.take k)).length = sent.length + k := by rw [List.length_append, sentL_len, htl]
    have hsq : p.seq + ((k + 1 : Nat) : Int) = p.seq + (k : Int) + 1 := by omega

    repeat' (first | refine Ctl.h ?_ | ((with_reducible intro hif); first | (focus (cases hif; done)) | (simp only [JH] at hif; try (exfalso; omega)) | (try (exfalso; omega))) | ((first | ((with_reducible apply J22 cHaN_ok tab_ok); (· rfl)) | ((with_reducible apply J23 fol cHaN_ok tab_ok); (· rfl)) | with_reducible apply J24); (· (simp only [push_cast, ↓JP, Nat.reduceAdd, Nat.reduceEqDiff, Nat.reduceLT, Nat.reduceMul, Nat.reduceLeDiff, reduceCtorEq, reduceIte, ↓JK, dnB, dnS, evO_, cHaN, hRO, hkl, hY, s0, s1]; rfl)); (try kernel_rfl); (try exact Vm.b110)) | fail)

    with_reducible apply WF.drawn2 10 12 fol cHaG_ok tab_ok
    · rfl
    · exact Vm.b107
    · kernel_rfl
    · rfl
    · rfl
    · exact Vm.b107
    · exact Vm.b108
    · exact Vm.b108
    repeat' (first | refine Ctl.h ?_ | ((with_reducible intro hif); first | (focus (cases hif; done)) | (simp only [JH] at hif; try (exfalso; omega)) | (try (exfalso; omega))) | ((first | ((with_reducible apply J22 cHaG_ok tab_ok); (· rfl)) | ((with_reducible apply J23 fol cHaG_ok tab_ok); (· rfl)) | with_reducible apply J24); (· (simp only [push_cast, ↓JP, Nat.reduceAdd, Nat.reduceEqDiff, Nat.reduceLT, Nat.reduceMul, Nat.reduceLeDiff, reduceCtorEq, reduceIte, ↓JK, dnB, dnS, evO_, cHaG, hRO, hkl, hY, s0, s1]; rfl)); (try kernel_rfl); (try exact Vm.b110)) | fail)
    refine At.nextPick [0, 1, 2, 3, 4, 5, 6, 7, 8, 9, 10, 11, 12, 17] (k + 1) ?_ rfl rfl rfl ?_ rfl ?_ ?_ ?_ rfl
    · exact ⟨hkl, by omega⟩
    · (repeat' (first | exact trivial | exact .inl rfl | exact .inr (.same _) | exact .inr .loose | exact .inr (.arr (by assumption)) | apply And.intro | (rw [hsq]; exact .inr (.same _)) | (rw [hST]; exact .inr (less_appE _ _ hSl rfl (fun β => rfl)))))
    · exact Vm.b106
    · exact Vm.b67
    · exact Vm.b106
  · obtain rfl : k = R.s.sends.length := by omega
    rw [List.take_length]
    have hfin : (sent ++ sentL p e.time p.seq R.s.sends).length = sent.length + R.s.sends.length := by rw [List.length_append, sentL_len]
    repeat' (first | refine Ctl.h ?_ | ((with_reducible intro hif); first | (focus (cases hif; done)) | (simp only [JH] at hif; try (exfalso; omega)) | (try (exfalso; omega))) | ((first | ((with_reducible apply J22 cHaG_ok tab_ok); (· rfl)) | ((with_reducible apply J23 fol cHaG_ok tab_ok); (· rfl)) | with_reducible apply J24); (· (simp only [push_cast, ↓JP, Nat.reduceAdd, Nat.reduceEqDiff, Nat.reduceLT, Nat.reduceMul, Nat.reduceLeDiff, reduceCtorEq, reduceIte, ↓JK, dnB, dnS, evO_, cHaG, hRO]; rfl)); (try kernel_rfl); (try exact Vm.b110)) | fail)
    apply At.endsPick [0, 1, 2, 3, 4, 5, 10, 13] tab_ok (fn := Tryz.f96) (rs := [.tmp 6]) Anc.refl hro (Nat.le_of_ble_eq_true rfl) rfl
    · exact Vm.b11
    · exact Vm.b26
    · rfl
    · rfl
    · rfl
    · (repeat' (first | exact trivial | exact .inl rfl | exact .inr (.same _) | exact .inr .loose | exact .inr (.arr (by assumption)) | apply And.intro | (simp only [dnB, dnS, evO_, hfin]; exact .inr (.same _))))
    · rfl
    · exact Vm.b106
    · exact Vm.b10
    · exact fun β => rfl
    · exact Vm.b106
end Go.Proofs.YtjliakjbdcplcaaGreat.Vm
end

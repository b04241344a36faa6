import Derived.Test.YtjliakjbdcplcaaG7
import Derived.Test.YtjliakjbdcplcaaG8
import Derived.Test.YtjliakjbdcplcaaG10
import Derived.Test.YtjliakjbdcplcaaG11
import Derived.Test.YtjliakjbdcplcaaG12
section
namespace Go.Proofs.Ytjliakjbdcplcaa.Vm
theorem b86 {P : Prop} (h : P := by (repeat' (first | exact trivial | exact rfl | assumption | apply Stable.ite | exact nilOr_st rfl rfl | apply And.intro | intro _ | (simp only [Stable, StableL, i64S, prS, insS, sndsS, sndS, stS, evS, macS, mB, cB, sB, eB, prO, prR, pbB, fbB, HB.stable]; done)))) : P := h
theorem b87 {P : Prop} (h : P := by (repeat' (first | exact trivial | exact .inl rfl | exact .inr (.same _) | exact .inr .loose | exact .inr (.arr (by assumption)) | apply And.intro | (exact .inr (hA1 _ (fun q _ => rfl) _)) | (exact .inr (hA0 _ (fun q _ => rfl) _)) | (refine .inr (less_nil ?_ ?_ ?_) <;> first | rfl | simp)))) : P := h
theorem b88 {P : Prop} (h : P := by (simp only [push_cast, ↓JP, Nat.reduceAdd, Nat.reduceEqDiff, Nat.reduceLT, Nat.reduceMul, Nat.reduceLeDiff, reduceCtorEq, reduceIte, ↓JK, cRun, JM, engP, prP, macP, nodupN, memN, eB, prO, pbB, fbB, JE, eEnded, eAt, eStep, eState, inR, inN, hst, hn190, Nat.sub_zero]; rfl)) : P := h
end Go.Proofs.Ytjliakjbdcplcaa.Vm
end
section
namespace Go.Proofs.Ytjliakjbdcplcaa.Vm
open Go.RowKit
attribute [local push_cast] runR opG gtmp gval gus opX tmpsOf tm tmO tmP restr look look2 tab tys zs ets eqB eqBL allB numOf ieq Int.cast_ofNat_Int Int.ofNat_zero beq_true beq_false frameOf ev evL ofV opV loadV noW pushF wrsL setH allBorn allGone HB.born HB.isGone HB.val SV.plain dstOk hp nav fitsT SV.size sizeL SV.isAgg TK.size TK.agg bin binE binN binI arN arI cmpN cmpI keq kn narrow callV storeV setp fillV buildV buildSliceV makeV sliceV appendV copyV List.isEmpty_nil srcV evO asN ite_t ite_f ite_bool ite_int ite_nat maxV v_beq v_ble v_blt cond_true cond_false List.getElem?_cons_zero List.getElem?_cons_succ List.getD_cons_zero List.getD_cons_succ List.getD_nil List.length_cons List.length_nil List.take_succ_cons List.take_zero List.set_cons_zero List.set_cons_succ List.cons_append List.nil_append List.append_assoc List.replicate_succ List.replicate_zero Nat.zero_add Nat.add_zero decide_true decide_false Bool.true_and Bool.and_true Bool.false_and Bool.and_false Bool.true_or Bool.or_true Bool.false_or Bool.or_false beq_self_eq_true Bool.or_self Nat.lt_irrefl Nat.not_lt_zero Nat.le_refl Option.getD_some Option.getD_none BEq.rfl Bool.not_true Bool.not_false Bool.cond_true_left Bool.cond_false_right prS sndsS i64S nav_ins nav_ins0 nav_ins1 nav_ins2 nav_ins3 nav_ins4 nav_snd nav_snd0 nav_snd1 nav_snd2 isIns_insS insOf_insS isSnd_sndS sndOf_sndS isI_int isI_nat iOf
set_option linter.unusedVariables false
set_option linter.unusedSimpArgs false
set_option maxRecDepth 100000
set_option maxHeartbeats 4000000
theorem nilOr_app (D : List Int) (z : Int) : (D ++ [z]).isEmpty = false := by cases D <;> rfl
theorem Trace_go (P : List Ins) (v : Evi) (t s q o y d f : Int) (cs : List Int) (p1 p2 : Nat) (hP : PG P) (V : VOk v) (hc : cs.length ≤ 1000000) (hE : ropE P v (begS y t s cs d) f = 0) (r : RR) (hr : runA P v f.toNat (begS y t s cs d) Ins0 [] 0 = r) : LitOk Try.prog 25 [.sl 1 2 [] 5 0 P.length (some p1), .agg [.int .u64 v.seed, .int .i64 v.process, .int .i64 v.ports, .int .i64 v.look, .int .i64 v.now], .agg [.agg [.int .i64 t, .int .i64 s, .int .i64 q], .int .i64 o, .int .i64 y], .sl 3 4 [] 1 0 cs.length (some p2), .int .i64 d, .int .i64 f]
    [.gone, .gone, .ro (.arr P.length 5 (prS P)), .gone, .ro (.arr cs.length 1 (i64S cs))]
    (.tup [nilOr r.tr 5, .int .i64 r.bad]) [.gone, .gone, .gone, .gone, .gone, .own 3 (.arr r.tr.length 1 (i64S r.tr)) false] := by
  have hok := hP.ok
  have hn := hP.len
  have hn' : P.length ≤ 1000000 := by omega
  have hf := (ropE_zero hE).1
  have hO := openE_zero (ropE_zero hE).2
  have hG : SG P (begS y t s cs d) := SG.of hO.2.2 (by simp [begS])
  obtain ⟨s0, hs0⟩ : ∃ s0, begS y t s cs d = s0 := ⟨_, rfl⟩
  rw [hs0] at hE hr hG
  refine litOkM (fn := Try.f25) 5 46 0 rfl rfl rfl rfl rfl (by simp only [StableL, Stable, hp, i64S, prS, insS, sndsS, sndS, stS, evS, macS, mB, cB, sB, eB, prO, prR, pbB, fbB, HB.stable]; simp [HB.born]) rfl fun w0 M E hro => ?_
  repeat' (first | with_reducible (first | apply J1 | apply J3 | apply J4 | apply J5 | apply J6 | apply J7 | apply J8 | apply J9 | apply J10 | apply J11 | apply J12 | apply J13 | apply J14 | apply J15 | apply J16 | apply J17 | apply J18 | apply J19 | apply J20 | refine J2 ?_) | ((with_reducible apply J21); (· rfl)) | ((with_reducible intro hif); first | (focus (cases hif; done)) | (simp only [JH] at hif; try (exfalso; omega)) | (try (exfalso; omega))) | ((first | ((with_reducible apply J22 cRun_ok tab_ok); (· rfl)) | ((with_reducible apply J23 fol cRun_ok tab_ok); (· rfl)) | with_reducible apply J24); (· exact Vm.b55); (try kernel_rfl); (try exact Vm.b54)) | fail)
  with_reducible apply WF.range (fn' := Try.f73) 28
  · exact Vm.b42
  · exact Vm.b10
  · rfl
  · rfl
  · rfl
  · rfl
  · rfl
  · rfl
  · rfl
  intro E1 rec tmps after hE1 hrec hcf haft
  repeat' (first | with_reducible (first | apply J1 | apply J3 | apply J4 | apply J5 | apply J6 | apply J7 | apply J8 | apply J9 | apply J10 | apply J11 | apply J12 | apply J13 | apply J14 | apply J15 | apply J16 | apply J17 | apply J18 | apply J19 | apply J20 | refine J2 ?_) | ((with_reducible apply J21); (· rfl)) | ((with_reducible intro hif); first | (focus (cases hif; done)) | (simp only [JH] at hif; try (exfalso; omega)) | (try (exfalso; omega))) | ((first | ((with_reducible apply J22 cRun_ok tab_ok); (· rfl)) | ((with_reducible apply J23 fol cRun_ok tab_ok); (· rfl)) | with_reducible apply J24); (· exact Vm.b56); (try kernel_rfl); (try exact Vm.b14)) | fail)
  refine At.pick (L2 := [.gone, .gone, .ro (.arr P.length 5 (prS P)), .gone, .ro (.arr cs.length 1 (i64S cs)), .gone, .gone, eB 8 11 P.length, mB s0 v Ins0 9 18, cB s0, .gone, prO P, .own 46 (.int .i64 0) true, .own 69 (.sl 0 0 [] 0 0 0 (some 0)) true, pbB 7, fbB f, .raw (.deferred (some [])), .raw (.loop (rec .ready none)), sB s0]) (φ2 := [(0, .yl 17), (1, .ptr 14 []), (2, .ptr 15 []), (4, .nat .i64 0)]) [0, 1, 2, 3, 4, 5, 6, 7, 8, 9, 10, 11, 12, 13, 14, 15, 16, 17, 10] rfl rfl rfl ?_ rfl ?_ ?_ ?_ rfl ?_
  · exact Vm.b24
  · exact Vm.b86
  · exact Vm.b45
  · exact Vm.b86
  refine WF.empty 3 1 (i64S []) (fun _ q => i64S_stable q) ?_
  refine WF.loopAt (fun (z : RS) => RInv P v f r z) (fun (z : RS) => [(0, .yl 17), (1, .ptr 14 []), (2, .ptr 15 []), (4, .nat .i64 z.k)]) (fun (z : RS) => [.gone, .gone, .ro (.arr P.length 5 (prS P)), .gone, .ro (.arr cs.length 1 (i64S cs)), .gone, .gone, eB 8 11 P.length, mB z.s v z.x 9 18, cB z.s, .gone, prO P, .own 46 (.int .i64 0) true, .own 69 (nilOr z.tr 19) true, pbB 7, fbB f, .raw (.deferred (some [])), .raw (.loop (rec .ready none)), sB z.s, .own 3 (.arr z.tr.length 1 (i64S z.tr)) false]) (fun (z : RS) => f.toNat - z.k) ⟨0, s0, Ins0, [], 0⟩ ⟨Nat.zero_le _, hG, rfl, hr⟩ ?_ ?_ rfl ?_ ?_ rfl ?_
  · exact Vm.b26
  · exact Vm.b7
  · exact Vm.b86
  · exact Vm.b86
  rintro ⟨k, ⟨at1, en, rg, ce, dr, se⟩, x, tr, a⟩ ⟨hk, hg, hl, hr1⟩
  dsimp only at hk hg hl hr1 ⊢
  have htl : tr.length ≤ 4096 := by omega
  cases en
  · by_cases hkf : k < f.toNat
    · have hkf2 : (k : Int) < f := by omega
      have hA1 : ∀ g : Nat → SV, (∀ q, q < tr.length + 1 → g q = SV.ite (decide (q < tr.length)) (.int .i64 (tr.getD q 0)) ([SV.int .i64 at1].getD (q - tr.length) (.nat .i64 0))) → ∀ σ, Less (.own 3 (.arr (tr.length + 1) 1 g) false) ((HB.own 3 (.arr (tr ++ [at1]).length 1 (i64S (tr ++ [at1]))) false).ren σ) := fun g hg σ => less_app tr at1 fun q hq β => by
        rw [hg q hq, ite_eq]
        by_cases h : q < tr.length
        · simp only [h, decide_true, cond_true, List.getD_eq_getElem?_getD, List.getElem?_append_left h]; rfl
        · obtain rfl : q = tr.length := by omega
          simp only [Nat.lt_irrefl, decide_false, cond_false, Nat.sub_self, List.getD_eq_getElem?_getD, List.getElem?_append_right (Nat.le_refl _), List.getElem?_cons_zero, Option.getD_some]; rfl
      have hA0 : ∀ g : Nat → SV, (∀ q, q < 0 + 1 → g q = [SV.int .i64 at1].getD q (.nat .i64 0)) → ∀ σ, Less (.own 3 (.arr (0 + 1) 1 g) false) ((HB.own 3 (.arr ([] ++ [at1]).length 1 (i64S ([] ++ [at1]))) false).ren σ) := fun g hg σ => less_app [] at1 fun q hq β => by
        rw [hg q hq]
        obtain rfl : q = 0 := by simp at hq; omega
        rfl
      have hl2 : (tr ++ [at1]).length = k + 1 := by simp [hl]
      have hn190 := stepE_ne190 P v ⟨at1, false, rg, ce, dr, se⟩
      by_cases hst : stepE P v ⟨at1, false, rg, ce, dr, se⟩ = 0
      · cases hDe : tr.isEmpty
        · rw [nilOr_f hDe]
          repeat' (first | with_reducible (first | apply J1 | apply J3 | apply J4 | apply J5 | apply J6 | apply J7 | apply J8 | apply J9 | apply J10 | apply J11 | apply J12 | apply J13 | apply J14 | apply J15 | apply J16 | apply J17 | apply J18 | apply J19 | apply J20 | refine J2 ?_) | ((with_reducible apply J21); (· rfl)) | ((with_reducible intro hif); first | (focus (cases hif; done)) | (simp only [JH] at hif; try (exfalso; omega)) | (try (exfalso; omega))) | ((first | ((with_reducible apply J22 cRun_ok tab_ok); (· rfl)) | ((with_reducible apply J23 fol cRun_ok tab_ok); (· rfl)) | with_reducible apply J24); (· exact Vm.b57); (try kernel_rfl); (try exact Vm.b14)) | fail)
          with_reducible apply WF.split 3 5
          · rfl
          with_reducible apply At.run cRun_ok tab_ok
          · rfl
          · rfl
          · rfl
          · exact Vm.b46
          · exact Vm.b47
          with_reducible apply At.yield (gr := _)
          · rfl
          · rfl
          · rfl
          · rfl
          · rfl
          · rfl
          · exact Vm.b46
          · exact Vm.b48
          · exact Vm.b46
          · exact Vm.b47
          · exact Vm.b46
          · exact Vm.b47
          · exact Vm.b48
          · exact hrec
          · exact hcf
          · rfl
          · rfl
          · rfl
          intro lb E2 next hE2 hnext
          repeat' (first | with_reducible (first | apply J1 | apply J3 | apply J4 | apply J5 | apply J6 | apply J7 | apply J8 | apply J9 | apply J10 | apply J11 | apply J12 | apply J13 | apply J14 | apply J15 | apply J16 | apply J17 | apply J18 | apply J19 | apply J20 | refine J2 ?_) | ((with_reducible apply J21); (· rfl)) | ((with_reducible intro hif); first | (focus (cases hif; done)) | (simp only [JH] at hif; try (exfalso; omega)) | (try (exfalso; omega))) | ((first | ((with_reducible apply J22 cRun_ok tab_ok); (· rfl)) | ((with_reducible apply J23 fol cRun_ok tab_ok); (· rfl)) | with_reducible apply J24); (· exact Vm.b58); (try kernel_rfl); (try exact Vm.b14)) | fail)
          with_reducible apply At.begins hrec
          · rfl
          with_reducible refine At.code ?_
          repeat' (first | with_reducible (first | apply J1 | apply J3 | apply J4 | apply J5 | apply J6 | apply J7 | apply J8 | apply J9 | apply J10 | apply J11 | apply J12 | apply J13 | apply J14 | apply J15 | apply J16 | apply J17 | apply J18 | apply J19 | apply J20 | refine J2 ?_) | ((with_reducible apply J21); (· rfl)) | ((with_reducible intro hif); first | (focus (cases hif; done)) | (simp only [JH] at hif; try (exfalso; omega)) | (try (exfalso; omega))) | ((first | ((with_reducible apply J22 cRun_ok tab_ok); (· rfl)) | ((with_reducible apply J23 fol cRun_ok tab_ok); (· rfl)) | with_reducible apply J24); (· exact Vm.b88); (try kernel_rfl); (try exact Vm.b14)) | fail)
          with_reducible apply At.roundNormal
          · exact Vm.b48
          apply hnext
          with_reducible apply At.runEnd cRun_ok tab_ok
          · rfl
          · rfl
          · rfl
          · exact Vm.b46
          · exact Vm.b47
          repeat' (first | with_reducible (first | apply J1 | apply J3 | apply J4 | apply J5 | apply J6 | apply J7 | apply J8 | apply J9 | apply J10 | apply J11 | apply J12 | apply J13 | apply J14 | apply J15 | apply J16 | apply J17 | apply J18 | apply J19 | apply J20 | refine J2 ?_) | ((with_reducible apply J21); (· rfl)) | ((with_reducible intro hif); first | (focus (cases hif; done)) | (simp only [JH] at hif; try (exfalso; omega)) | (try (exfalso; omega))) | ((first | ((with_reducible apply J22 cRun_ok tab_ok); (· rfl)) | ((with_reducible apply J23 fol cRun_ok tab_ok); (· rfl)) | with_reducible apply J24); (· exact Vm.b58); (try kernel_rfl); (try exact Vm.b14)) | fail)
          refine At.nextPick [0, 1, 2, 3, 4, 5, 6, 7, 8, 9, 10, 11, 12, 13, 14, 15, 16, 17, 20, 22] ⟨k + 1, stepS P v ⟨at1, false, rg, ce, dr, se⟩, stepX P ⟨at1, false, rg, ce, dr, se⟩ x, tr ++ [at1], at1⟩ ?_ rfl rfl rfl ?_ rfl ?_ ?_ ?_ rfl
          · exact Vm.b66
          · exact Vm.b87
          · exact Vm.b86
          · exact Vm.b45
          · exact Vm.b86
        · rw [nilOr_t hDe]
          have hDz : tr = [] := by simpa using hDe
          subst hDz
          repeat' (first | with_reducible (first | apply J1 | apply J3 | apply J4 | apply J5 | apply J6 | apply J7 | apply J8 | apply J9 | apply J10 | apply J11 | apply J12 | apply J13 | apply J14 | apply J15 | apply J16 | apply J17 | apply J18 | apply J19 | apply J20 | refine J2 ?_) | ((with_reducible apply J21); (· rfl)) | ((with_reducible intro hif); first | (focus (cases hif; done)) | (simp only [JH] at hif; try (exfalso; omega)) | (try (exfalso; omega))) | ((first | ((with_reducible apply J22 cRun_ok tab_ok); (· rfl)) | ((with_reducible apply J23 fol cRun_ok tab_ok); (· rfl)) | with_reducible apply J24); (· exact Vm.b57); (try kernel_rfl); (try exact Vm.b14)) | fail)
          with_reducible apply WF.split 3 5
          · rfl
          with_reducible apply At.run cRun_ok tab_ok
          · rfl
          · rfl
          · rfl
          · exact Vm.b46
          · exact Vm.b47
          with_reducible apply At.yield (gr := _)
          · rfl
          · rfl
          · rfl
          · rfl
          · rfl
          · rfl
          · exact Vm.b46
          · exact Vm.b48
          · exact Vm.b46
          · exact Vm.b47
          · exact Vm.b46
          · exact Vm.b47
          · exact Vm.b48
          · exact hrec
          · exact hcf
          · rfl
          · rfl
          · rfl
          intro lb E2 next hE2 hnext
          repeat' (first | with_reducible (first | apply J1 | apply J3 | apply J4 | apply J5 | apply J6 | apply J7 | apply J8 | apply J9 | apply J10 | apply J11 | apply J12 | apply J13 | apply J14 | apply J15 | apply J16 | apply J17 | apply J18 | apply J19 | apply J20 | refine J2 ?_) | ((with_reducible apply J21); (· rfl)) | ((with_reducible intro hif); first | (focus (cases hif; done)) | (simp only [JH] at hif; try (exfalso; omega)) | (try (exfalso; omega))) | ((first | ((with_reducible apply J22 cRun_ok tab_ok); (· rfl)) | ((with_reducible apply J23 fol cRun_ok tab_ok); (· rfl)) | with_reducible apply J24); (· exact Vm.b58); (try kernel_rfl); (try exact Vm.b14)) | fail)
          with_reducible apply At.begins hrec
          · rfl
          with_reducible refine At.code ?_
          repeat' (first | with_reducible (first | apply J1 | apply J3 | apply J4 | apply J5 | apply J6 | apply J7 | apply J8 | apply J9 | apply J10 | apply J11 | apply J12 | apply J13 | apply J14 | apply J15 | apply J16 | apply J17 | apply J18 | apply J19 | apply J20 | refine J2 ?_) | ((with_reducible apply J21); (· rfl)) | ((with_reducible intro hif); first | (focus (cases hif; done)) | (simp only [JH] at hif; try (exfalso; omega)) | (try (exfalso; omega))) | ((first | ((with_reducible apply J22 cRun_ok tab_ok); (· rfl)) | ((with_reducible apply J23 fol cRun_ok tab_ok); (· rfl)) | with_reducible apply J24); (· exact Vm.b88); (try kernel_rfl); (try exact Vm.b14)) | fail)
          with_reducible apply At.roundNormal
          · exact Vm.b48
          apply hnext
          with_reducible apply At.runEnd cRun_ok tab_ok
          · rfl
          · rfl
          · rfl
          · exact Vm.b46
          · exact Vm.b47
          repeat' (first | with_reducible (first | apply J1 | apply J3 | apply J4 | apply J5 | apply J6 | apply J7 | apply J8 | apply J9 | apply J10 | apply J11 | apply J12 | apply J13 | apply J14 | apply J15 | apply J16 | apply J17 | apply J18 | apply J19 | apply J20 | refine J2 ?_) | ((with_reducible apply J21); (· rfl)) | ((with_reducible intro hif); first | (focus (cases hif; done)) | (simp only [JH] at hif; try (exfalso; omega)) | (try (exfalso; omega))) | ((first | ((with_reducible apply J22 cRun_ok tab_ok); (· rfl)) | ((with_reducible apply J23 fol cRun_ok tab_ok); (· rfl)) | with_reducible apply J24); (· exact Vm.b58); (try kernel_rfl); (try exact Vm.b14)) | fail)
          refine At.nextPick [0, 1, 2, 3, 4, 5, 6, 7, 8, 9, 10, 11, 12, 13, 14, 15, 16, 17, 20, 22] ⟨k + 1, stepS P v ⟨at1, false, rg, ce, dr, se⟩, stepX P ⟨at1, false, rg, ce, dr, se⟩ x, [] ++ [at1], at1⟩ ?_ rfl rfl rfl ?_ rfl ?_ ?_ ?_ rfl
          · exact Vm.b66
          · exact Vm.b87
          · exact Vm.b86
          · exact Vm.b45
          · exact Vm.b86
      · rw [runA_bad rfl (by omega) hst] at hr1
        subst hr1
        have hnf : nilOr (tr ++ [at1]) 5 = .sl 5 5 [] 1 0 (tr ++ [at1]).length none := nilOr_f (nilOr_app tr at1)
        cases hDe : tr.isEmpty
        · rw [nilOr_f hDe]
          repeat' (first | with_reducible (first | apply J1 | apply J3 | apply J4 | apply J5 | apply J6 | apply J7 | apply J8 | apply J9 | apply J10 | apply J11 | apply J12 | apply J13 | apply J14 | apply J15 | apply J16 | apply J17 | apply J18 | apply J19 | apply J20 | refine J2 ?_) | ((with_reducible apply J21); (· rfl)) | ((with_reducible intro hif); first | (focus (cases hif; done)) | (simp only [JH] at hif; try (exfalso; omega)) | (try (exfalso; omega))) | ((first | ((with_reducible apply J22 cRun_ok tab_ok); (· rfl)) | ((with_reducible apply J23 fol cRun_ok tab_ok); (· rfl)) | with_reducible apply J24); (· exact Vm.b57); (try kernel_rfl); (try exact Vm.b14)) | fail)
          with_reducible apply WF.split 3 5
          · rfl
          with_reducible apply At.run cRun_ok tab_ok
          · rfl
          · rfl
          · rfl
          · exact Vm.b46
          · exact Vm.b47
          with_reducible apply At.yield (gr := _)
          · rfl
          · rfl
          · rfl
          · rfl
          · rfl
          · rfl
          · exact Vm.b46
          · exact Vm.b48
          · exact Vm.b46
          · exact Vm.b47
          · exact Vm.b46
          · exact Vm.b47
          · exact Vm.b48
          · exact hrec
          · exact hcf
          · rfl
          · rfl
          · rfl
          intro lb E2 next hE2 hnext
          repeat' (first | with_reducible (first | apply J1 | apply J3 | apply J4 | apply J5 | apply J6 | apply J7 | apply J8 | apply J9 | apply J10 | apply J11 | apply J12 | apply J13 | apply J14 | apply J15 | apply J16 | apply J17 | apply J18 | apply J19 | apply J20 | refine J2 ?_) | ((with_reducible apply J21); (· rfl)) | ((with_reducible intro hif); first | (focus (cases hif; done)) | (simp only [JH] at hif; try (exfalso; omega)) | (try (exfalso; omega))) | ((first | ((with_reducible apply J22 cRun_ok tab_ok); (· rfl)) | ((with_reducible apply J23 fol cRun_ok tab_ok); (· rfl)) | with_reducible apply J24); (· exact Vm.b58); (try kernel_rfl); (try exact Vm.b14)) | fail)
          with_reducible apply At.begins hrec
          · rfl
          with_reducible refine At.code ?_
          repeat' (first | with_reducible (first | apply J1 | apply J3 | apply J4 | apply J5 | apply J6 | apply J7 | apply J8 | apply J9 | apply J10 | apply J11 | apply J12 | apply J13 | apply J14 | apply J15 | apply J16 | apply J17 | apply J18 | apply J19 | apply J20 | refine J2 ?_) | ((with_reducible apply J21); (· rfl)) | ((with_reducible intro hif); first | (focus (cases hif; done)) | (simp only [JH] at hif; try (exfalso; omega)) | (try (exfalso; omega))) | ((first | ((with_reducible apply J22 cRun_ok tab_ok); (· rfl)) | ((with_reducible apply J23 fol cRun_ok tab_ok); (· rfl)) | with_reducible apply J24); (· exact Vm.b88); (try kernel_rfl); (try exact Vm.b14)) | fail)
          with_reducible apply At.roundNormal
          · exact Vm.b48
          apply hnext
          with_reducible apply At.runEnd cRun_ok tab_ok
          · rfl
          · rfl
          · rfl
          · exact Vm.b46
          · exact Vm.b47
          repeat' (first | with_reducible (first | apply J1 | apply J3 | apply J4 | apply J5 | apply J6 | apply J7 | apply J8 | apply J9 | apply J10 | apply J11 | apply J12 | apply J13 | apply J14 | apply J15 | apply J16 | apply J17 | apply J18 | apply J19 | apply J20 | refine J2 ?_) | ((with_reducible apply J21); (· rfl)) | ((with_reducible intro hif); first | (focus (cases hif; done)) | (simp only [JH] at hif; try (exfalso; omega)) | (try (exfalso; omega))) | ((first | ((with_reducible apply J22 cRun_ok tab_ok); (· rfl)) | ((with_reducible apply J23 fol cRun_ok tab_ok); (· rfl)) | with_reducible apply J24); (· exact Vm.b58); (try kernel_rfl); (try exact Vm.b14)) | fail)
          with_reducible apply At.itRet .ready
          · rfl
          · rfl
          · intro h; cases h
          apply haft
          intro w1 M1 D1 hA
          dsimp only
          rw [hnf]
          repeat' (first | with_reducible (first | apply J1 | apply J3 | apply J4 | apply J5 | apply J6 | apply J7 | apply J8 | apply J9 | apply J10 | apply J11 | apply J12 | apply J13 | apply J14 | apply J15 | apply J16 | apply J17 | apply J18 | apply J19 | apply J20 | refine J2 ?_) | ((with_reducible apply J21); (· rfl)) | ((with_reducible intro hif); first | (focus (cases hif; done)) | (simp only [JH] at hif; try (exfalso; omega)) | (try (exfalso; omega))) | ((first | ((with_reducible apply J22 cRun_ok tab_ok); (· rfl)) | ((with_reducible apply J23 fol cRun_ok tab_ok); (· rfl)) | with_reducible apply J24); (· exact Vm.b58); (try kernel_rfl); (try exact Vm.b14)) | fail)
          apply At.endsPick [0, 1, 2, 3, 4, 22] tab_ok (fn := Try.f25) (rs := [.tmp 12, .tmp 13]) hA hro (Nat.le_of_ble_eq_true rfl) rfl
          · exact Vm.b5
          · exact Vm.b10
          · rfl
          · rfl
          · rfl
          · exact Vm.b87
          · rfl
          · exact Vm.b86
          · exact Vm.b9
          · exact fun β => by rw [show (tr ++ [at1]).length = tr.length + 1 by simp]; rfl
          · exact Vm.b86
        · rw [nilOr_t hDe]
          have hDz : tr = [] := by simpa using hDe
          subst hDz
          repeat' (first | with_reducible (first | apply J1 | apply J3 | apply J4 | apply J5 | apply J6 | apply J7 | apply J8 | apply J9 | apply J10 | apply J11 | apply J12 | apply J13 | apply J14 | apply J15 | apply J16 | apply J17 | apply J18 | apply J19 | apply J20 | refine J2 ?_) | ((with_reducible apply J21); (· rfl)) | ((with_reducible intro hif); first | (focus (cases hif; done)) | (simp only [JH] at hif; try (exfalso; omega)) | (try (exfalso; omega))) | ((first | ((with_reducible apply J22 cRun_ok tab_ok); (· rfl)) | ((with_reducible apply J23 fol cRun_ok tab_ok); (· rfl)) | with_reducible apply J24); (· exact Vm.b57); (try kernel_rfl); (try exact Vm.b14)) | fail)
          with_reducible apply WF.split 3 5
          · rfl
          with_reducible apply At.run cRun_ok tab_ok
          · rfl
          · rfl
          · rfl
          · exact Vm.b46
          · exact Vm.b47
          with_reducible apply At.yield (gr := _)
          · rfl
          · rfl
          · rfl
          · rfl
          · rfl
          · rfl
          · exact Vm.b46
          · exact Vm.b48
          · exact Vm.b46
          · exact Vm.b47
          · exact Vm.b46
          · exact Vm.b47
          · exact Vm.b48
          · exact hrec
          · exact hcf
          · rfl
          · rfl
          · rfl
          intro lb E2 next hE2 hnext
          repeat' (first | with_reducible (first | apply J1 | apply J3 | apply J4 | apply J5 | apply J6 | apply J7 | apply J8 | apply J9 | apply J10 | apply J11 | apply J12 | apply J13 | apply J14 | apply J15 | apply J16 | apply J17 | apply J18 | apply J19 | apply J20 | refine J2 ?_) | ((with_reducible apply J21); (· rfl)) | ((with_reducible intro hif); first | (focus (cases hif; done)) | (simp only [JH] at hif; try (exfalso; omega)) | (try (exfalso; omega))) | ((first | ((with_reducible apply J22 cRun_ok tab_ok); (· rfl)) | ((with_reducible apply J23 fol cRun_ok tab_ok); (· rfl)) | with_reducible apply J24); (· exact Vm.b58); (try kernel_rfl); (try exact Vm.b14)) | fail)
          with_reducible apply At.begins hrec
          · rfl
          with_reducible refine At.code ?_
          repeat' (first | with_reducible (first | apply J1 | apply J3 | apply J4 | apply J5 | apply J6 | apply J7 | apply J8 | apply J9 | apply J10 | apply J11 | apply J12 | apply J13 | apply J14 | apply J15 | apply J16 | apply J17 | apply J18 | apply J19 | apply J20 | refine J2 ?_) | ((with_reducible apply J21); (· rfl)) | ((with_reducible intro hif); first | (focus (cases hif; done)) | (simp only [JH] at hif; try (exfalso; omega)) | (try (exfalso; omega))) | ((first | ((with_reducible apply J22 cRun_ok tab_ok); (· rfl)) | ((with_reducible apply J23 fol cRun_ok tab_ok); (· rfl)) | with_reducible apply J24); (· exact Vm.b88); (try kernel_rfl); (try exact Vm.b14)) | fail)
          with_reducible apply At.roundNormal
          · exact Vm.b48
          apply hnext
          with_reducible apply At.runEnd cRun_ok tab_ok
          · rfl
          · rfl
          · rfl
          · exact Vm.b46
          · exact Vm.b47
          repeat' (first | with_reducible (first | apply J1 | apply J3 | apply J4 | apply J5 | apply J6 | apply J7 | apply J8 | apply J9 | apply J10 | apply J11 | apply J12 | apply J13 | apply J14 | apply J15 | apply J16 | apply J17 | apply J18 | apply J19 | apply J20 | refine J2 ?_) | ((with_reducible apply J21); (· rfl)) | ((with_reducible intro hif); first | (focus (cases hif; done)) | (simp only [JH] at hif; try (exfalso; omega)) | (try (exfalso; omega))) | ((first | ((with_reducible apply J22 cRun_ok tab_ok); (· rfl)) | ((with_reducible apply J23 fol cRun_ok tab_ok); (· rfl)) | with_reducible apply J24); (· exact Vm.b58); (try kernel_rfl); (try exact Vm.b14)) | fail)
          with_reducible apply At.itRet .ready
          · rfl
          · rfl
          · intro h; cases h
          apply haft
          intro w1 M1 D1 hA
          dsimp only
          rw [hnf]
          repeat' (first | with_reducible (first | apply J1 | apply J3 | apply J4 | apply J5 | apply J6 | apply J7 | apply J8 | apply J9 | apply J10 | apply J11 | apply J12 | apply J13 | apply J14 | apply J15 | apply J16 | apply J17 | apply J18 | apply J19 | apply J20 | refine J2 ?_) | ((with_reducible apply J21); (· rfl)) | ((with_reducible intro hif); first | (focus (cases hif; done)) | (simp only [JH] at hif; try (exfalso; omega)) | (try (exfalso; omega))) | ((first | ((with_reducible apply J22 cRun_ok tab_ok); (· rfl)) | ((with_reducible apply J23 fol cRun_ok tab_ok); (· rfl)) | with_reducible apply J24); (· exact Vm.b58); (try kernel_rfl); (try exact Vm.b14)) | fail)
          apply At.endsPick [0, 1, 2, 3, 4, 22] tab_ok (fn := Try.f25) (rs := [.tmp 12, .tmp 13]) hA hro (Nat.le_of_ble_eq_true rfl) rfl
          · exact Vm.b5
          · exact Vm.b10
          · rfl
          · rfl
          · rfl
          · exact Vm.b87
          · rfl
          · exact Vm.b86
          · exact Vm.b9
          · exact fun β => rfl
          · exact Vm.b86
    · have e0 : f.toNat - k = 0 := by omega
      have hkf2 : ¬ (k : Int) < f := by omega
      rw [e0, runA_zero rfl] at hr1
      subst hr1
      cases hDe : tr.isEmpty
      · rw [nilOr_f hDe]
        repeat' (first | with_reducible (first | apply J1 | apply J3 | apply J4 | apply J5 | apply J6 | apply J7 | apply J8 | apply J9 | apply J10 | apply J11 | apply J12 | apply J13 | apply J14 | apply J15 | apply J16 | apply J17 | apply J18 | apply J19 | apply J20 | refine J2 ?_) | ((with_reducible apply J21); (· rfl)) | ((with_reducible intro hif); first | (focus (cases hif; done)) | (simp only [JH] at hif; try (exfalso; omega)) | (try (exfalso; omega))) | ((first | ((with_reducible apply J22 cRun_ok tab_ok); (· rfl)) | ((with_reducible apply J23 fol cRun_ok tab_ok); (· rfl)) | with_reducible apply J24); (· exact Vm.b60); (try kernel_rfl); (try exact Vm.b14)) | fail)
        with_reducible apply WF.split 3 5
        · rfl
        with_reducible apply At.run cRun_ok tab_ok
        · rfl
        · rfl
        · rfl
        · exact Vm.b51
        · exact Vm.b47
        with_reducible apply At.yield (gr := _)
        · rfl
        · rfl
        · rfl
        · rfl
        · rfl
        · rfl
        · exact Vm.b51
        · exact Vm.b52
        · exact Vm.b51
        · exact Vm.b47
        · exact Vm.b51
        · exact Vm.b47
        · exact Vm.b52
        · exact hrec
        · exact hcf
        · rfl
        · rfl
        · rfl
        intro lb E2 next hE2 hnext
        repeat' (first | with_reducible (first | apply J1 | apply J3 | apply J4 | apply J5 | apply J6 | apply J7 | apply J8 | apply J9 | apply J10 | apply J11 | apply J12 | apply J13 | apply J14 | apply J15 | apply J16 | apply J17 | apply J18 | apply J19 | apply J20 | refine J2 ?_) | ((with_reducible apply J21); (· rfl)) | ((with_reducible intro hif); first | (focus (cases hif; done)) | (simp only [JH] at hif; try (exfalso; omega)) | (try (exfalso; omega))) | ((first | ((with_reducible apply J22 cRun_ok tab_ok); (· rfl)) | ((with_reducible apply J23 fol cRun_ok tab_ok); (· rfl)) | with_reducible apply J24); (· exact Vm.b61); (try kernel_rfl); (try exact Vm.b14)) | fail)
        with_reducible apply At.begins hrec
        · rfl
        with_reducible refine At.code ?_
        repeat' (first | with_reducible (first | apply J1 | apply J3 | apply J4 | apply J5 | apply J6 | apply J7 | apply J8 | apply J9 | apply J10 | apply J11 | apply J12 | apply J13 | apply J14 | apply J15 | apply J16 | apply J17 | apply J18 | apply J19 | apply J20 | refine J2 ?_) | ((with_reducible apply J21); (· rfl)) | ((with_reducible intro hif); first | (focus (cases hif; done)) | (simp only [JH] at hif; try (exfalso; omega)) | (try (exfalso; omega))) | ((first | ((with_reducible apply J22 cRun_ok tab_ok); (· rfl)) | ((with_reducible apply J23 fol cRun_ok tab_ok); (· rfl)) | with_reducible apply J24); (· exact Vm.b61); (try kernel_rfl); (try exact Vm.b14)) | fail)
        with_reducible apply At.roundNormal
        · exact Vm.b52
        apply hnext
        with_reducible apply At.runEnd cRun_ok tab_ok
        · rfl
        · rfl
        · rfl
        · exact Vm.b51
        · exact Vm.b47
        repeat' (first | with_reducible (first | apply J1 | apply J3 | apply J4 | apply J5 | apply J6 | apply J7 | apply J8 | apply J9 | apply J10 | apply J11 | apply J12 | apply J13 | apply J14 | apply J15 | apply J16 | apply J17 | apply J18 | apply J19 | apply J20 | refine J2 ?_) | ((with_reducible apply J21); (· rfl)) | ((with_reducible intro hif); first | (focus (cases hif; done)) | (simp only [JH] at hif; try (exfalso; omega)) | (try (exfalso; omega))) | ((first | ((with_reducible apply J22 cRun_ok tab_ok); (· rfl)) | ((with_reducible apply J23 fol cRun_ok tab_ok); (· rfl)) | with_reducible apply J24); (· exact Vm.b61); (try kernel_rfl); (try exact Vm.b14)) | fail)
        with_reducible apply At.itRet .ready
        · rfl
        · rfl
        · intro h; cases h
        apply haft
        intro w1 M1 D1 hA
        dsimp only
        rw [nilOr_f hDe]
        repeat' (first | with_reducible (first | apply J1 | apply J3 | apply J4 | apply J5 | apply J6 | apply J7 | apply J8 | apply J9 | apply J10 | apply J11 | apply J12 | apply J13 | apply J14 | apply J15 | apply J16 | apply J17 | apply J18 | apply J19 | apply J20 | refine J2 ?_) | ((with_reducible apply J21); (· rfl)) | ((with_reducible intro hif); first | (focus (cases hif; done)) | (simp only [JH] at hif; try (exfalso; omega)) | (try (exfalso; omega))) | ((first | ((with_reducible apply J22 cRun_ok tab_ok); (· rfl)) | ((with_reducible apply J23 fol cRun_ok tab_ok); (· rfl)) | with_reducible apply J24); (· exact Vm.b61); (try kernel_rfl); (try exact Vm.b14)) | fail)
        apply At.endsPick [0, 1, 2, 3, 4, 19] tab_ok (fn := Try.f25) (rs := [.tmp 12, .tmp 13]) hA hro (Nat.le_of_ble_eq_true rfl) rfl
        · exact Vm.b5
        · exact Vm.b10
        · rfl
        · rfl
        · rfl
        · exact Vm.b24
        · rfl
        · exact Vm.b86
        · exact Vm.b9
        · exact fun β => rfl
        · exact Vm.b86
      · rw [nilOr_t hDe]
        repeat' (first | with_reducible (first | apply J1 | apply J3 | apply J4 | apply J5 | apply J6 | apply J7 | apply J8 | apply J9 | apply J10 | apply J11 | apply J12 | apply J13 | apply J14 | apply J15 | apply J16 | apply J17 | apply J18 | apply J19 | apply J20 | refine J2 ?_) | ((with_reducible apply J21); (· rfl)) | ((with_reducible intro hif); first | (focus (cases hif; done)) | (simp only [JH] at hif; try (exfalso; omega)) | (try (exfalso; omega))) | ((first | ((with_reducible apply J22 cRun_ok tab_ok); (· rfl)) | ((with_reducible apply J23 fol cRun_ok tab_ok); (· rfl)) | with_reducible apply J24); (· exact Vm.b60); (try kernel_rfl); (try exact Vm.b14)) | fail)
        with_reducible apply WF.split 3 5
        · rfl
        with_reducible apply At.run cRun_ok tab_ok
        · rfl
        · rfl
        · rfl
        · exact Vm.b51
        · exact Vm.b47
        with_reducible apply At.yield (gr := _)
        · rfl
        · rfl
        · rfl
        · rfl
        · rfl
        · rfl
        · exact Vm.b51
        · exact Vm.b52
        · exact Vm.b51
        · exact Vm.b47
        · exact Vm.b51
        · exact Vm.b47
        · exact Vm.b52
        · exact hrec
        · exact hcf
        · rfl
        · rfl
        · rfl
        intro lb E2 next hE2 hnext
        repeat' (first | with_reducible (first | apply J1 | apply J3 | apply J4 | apply J5 | apply J6 | apply J7 | apply J8 | apply J9 | apply J10 | apply J11 | apply J12 | apply J13 | apply J14 | apply J15 | apply J16 | apply J17 | apply J18 | apply J19 | apply J20 | refine J2 ?_) | ((with_reducible apply J21); (· rfl)) | ((with_reducible intro hif); first | (focus (cases hif; done)) | (simp only [JH] at hif; try (exfalso; omega)) | (try (exfalso; omega))) | ((first | ((with_reducible apply J22 cRun_ok tab_ok); (· rfl)) | ((with_reducible apply J23 fol cRun_ok tab_ok); (· rfl)) | with_reducible apply J24); (· exact Vm.b61); (try kernel_rfl); (try exact Vm.b14)) | fail)
        with_reducible apply At.begins hrec
        · rfl
        with_reducible refine At.code ?_
        repeat' (first | with_reducible (first | apply J1 | apply J3 | apply J4 | apply J5 | apply J6 | apply J7 | apply J8 | apply J9 | apply J10 | apply J11 | apply J12 | apply J13 | apply J14 | apply J15 | apply J16 | apply J17 | apply J18 | apply J19 | apply J20 | refine J2 ?_) | ((with_reducible apply J21); (· rfl)) | ((with_reducible intro hif); first | (focus (cases hif; done)) | (simp only [JH] at hif; try (exfalso; omega)) | (try (exfalso; omega))) | ((first | ((with_reducible apply J22 cRun_ok tab_ok); (· rfl)) | ((with_reducible apply J23 fol cRun_ok tab_ok); (· rfl)) | with_reducible apply J24); (· exact Vm.b61); (try kernel_rfl); (try exact Vm.b14)) | fail)
        with_reducible apply At.roundNormal
        · exact Vm.b52
        apply hnext
        with_reducible apply At.runEnd cRun_ok tab_ok
        · rfl
        · rfl
        · rfl
        · exact Vm.b51
        · exact Vm.b47
        repeat' (first | with_reducible (first | apply J1 | apply J3 | apply J4 | apply J5 | apply J6 | apply J7 | apply J8 | apply J9 | apply J10 | apply J11 | apply J12 | apply J13 | apply J14 | apply J15 | apply J16 | apply J17 | apply J18 | apply J19 | apply J20 | refine J2 ?_) | ((with_reducible apply J21); (· rfl)) | ((with_reducible intro hif); first | (focus (cases hif; done)) | (simp only [JH] at hif; try (exfalso; omega)) | (try (exfalso; omega))) | ((first | ((with_reducible apply J22 cRun_ok tab_ok); (· rfl)) | ((with_reducible apply J23 fol cRun_ok tab_ok); (· rfl)) | with_reducible apply J24); (· exact Vm.b61); (try kernel_rfl); (try exact Vm.b14)) | fail)
        with_reducible apply At.itRet .ready
        · rfl
        · rfl
        · intro h; cases h
        apply haft
        intro w1 M1 D1 hA
        dsimp only
        rw [nilOr_t hDe]
        repeat' (first | with_reducible (first | apply J1 | apply J3 | apply J4 | apply J5 | apply J6 | apply J7 | apply J8 | apply J9 | apply J10 | apply J11 | apply J12 | apply J13 | apply J14 | apply J15 | apply J16 | apply J17 | apply J18 | apply J19 | apply J20 | refine J2 ?_) | ((with_reducible apply J21); (· rfl)) | ((with_reducible intro hif); first | (focus (cases hif; done)) | (simp only [JH] at hif; try (exfalso; omega)) | (try (exfalso; omega))) | ((first | ((with_reducible apply J22 cRun_ok tab_ok); (· rfl)) | ((with_reducible apply J23 fol cRun_ok tab_ok); (· rfl)) | with_reducible apply J24); (· exact Vm.b61); (try kernel_rfl); (try exact Vm.b14)) | fail)
        apply At.endsPick [0, 1, 2, 3, 4, 19] tab_ok (fn := Try.f25) (rs := [.tmp 12, .tmp 13]) hA hro (Nat.le_of_ble_eq_true rfl) rfl
        · exact Vm.b5
        · exact Vm.b10
        · rfl
        · rfl
        · rfl
        · exact Vm.b24
        · rfl
        · exact Vm.b86
        · exact Vm.b9
        · exact fun β => rfl
        · exact Vm.b86
  · rw [runA_end rfl] at hr1
    subst hr1
    cases hDe : tr.isEmpty
    · rw [nilOr_f hDe]
      repeat' (first | with_reducible (first | apply J1 | apply J3 | apply J4 | apply J5 | apply J6 | apply J7 | apply J8 | apply J9 | apply J10 | apply J11 | apply J12 | apply J13 | apply J14 | apply J15 | apply J16 | apply J17 | apply J18 | apply J19 | apply J20 | refine J2 ?_) | ((with_reducible apply J21); (· rfl)) | ((with_reducible intro hif); first | (focus (cases hif; done)) | (simp only [JH] at hif; try (exfalso; omega)) | (try (exfalso; omega))) | ((first | ((with_reducible apply J22 cRun_ok tab_ok); (· rfl)) | ((with_reducible apply J23 fol cRun_ok tab_ok); (· rfl)) | with_reducible apply J24); (· exact Vm.b61); (try kernel_rfl); (try exact Vm.b14)) | fail)
      with_reducible apply At.itNormal .ready
      · rfl
      · rfl
      · intro h; cases h
      apply haft
      intro w1 M1 D1 hA
      dsimp only
      rw [nilOr_f hDe]
      repeat' (first | with_reducible (first | apply J1 | apply J3 | apply J4 | apply J5 | apply J6 | apply J7 | apply J8 | apply J9 | apply J10 | apply J11 | apply J12 | apply J13 | apply J14 | apply J15 | apply J16 | apply J17 | apply J18 | apply J19 | apply J20 | refine J2 ?_) | ((with_reducible apply J21); (· rfl)) | ((with_reducible intro hif); first | (focus (cases hif; done)) | (simp only [JH] at hif; try (exfalso; omega)) | (try (exfalso; omega))) | ((first | ((with_reducible apply J22 cRun_ok tab_ok); (· rfl)) | ((with_reducible apply J23 fol cRun_ok tab_ok); (· rfl)) | with_reducible apply J24); (· exact Vm.b61); (try kernel_rfl); (try exact Vm.b14)) | fail)
      apply At.endsPick [0, 1, 2, 3, 4, 19] tab_ok (fn := Try.f25) (rs := [.tmp 12, .tmp 13]) hA hro (Nat.le_of_ble_eq_true rfl) rfl
      · exact Vm.b5
      · exact Vm.b10
      · rfl
      · rfl
      · rfl
      · exact Vm.b24
      · rfl
      · exact Vm.b86
      · exact Vm.b9
      · exact fun β => rfl
      · exact Vm.b86
    · rw [nilOr_t hDe]
      repeat' (first | with_reducible (first | apply J1 | apply J3 | apply J4 | apply J5 | apply J6 | apply J7 | apply J8 | apply J9 | apply J10 | apply J11 | apply J12 | apply J13 | apply J14 | apply J15 | apply J16 | apply J17 | apply J18 | apply J19 | apply J20 | refine J2 ?_) | ((with_reducible apply J21); (· rfl)) | ((with_reducible intro hif); first | (focus (cases hif; done)) | (simp only [JH] at hif; try (exfalso; omega)) | (try (exfalso; omega))) | ((first | ((with_reducible apply J22 cRun_ok tab_ok); (· rfl)) | ((with_reducible apply J23 fol cRun_ok tab_ok); (· rfl)) | with_reducible apply J24); (· exact Vm.b61); (try kernel_rfl); (try exact Vm.b14)) | fail)
      with_reducible apply At.itNormal .ready
      · rfl
      · rfl
      · intro h; cases h
      apply haft
      intro w1 M1 D1 hA
      dsimp only
      rw [nilOr_t hDe]
      repeat' (first | with_reducible (first | apply J1 | apply J3 | apply J4 | apply J5 | apply J6 | apply J7 | apply J8 | apply J9 | apply J10 | apply J11 | apply J12 | apply J13 | apply J14 | apply J15 | apply J16 | apply J17 | apply J18 | apply J19 | apply J20 | refine J2 ?_) | ((with_reducible apply J21); (· rfl)) | ((with_reducible intro hif); first | (focus (cases hif; done)) | (simp only [JH] at hif; try (exfalso; omega)) | (try (exfalso; omega))) | ((first | ((with_reducible apply J22 cRun_ok tab_ok); (· rfl)) | ((with_reducible apply J23 fol cRun_ok tab_ok); (· rfl)) | with_reducible apply J24); (· exact Vm.b61); (try kernel_rfl); (try exact Vm.b14)) | fail)
      apply At.endsPick [0, 1, 2, 3, 4, 19] tab_ok (fn := Try.f25) (rs := [.tmp 12, .tmp 13]) hA hro (Nat.le_of_ble_eq_true rfl) rfl
      · exact Vm.b5
      · exact Vm.b10
      · rfl
      · rfl
      · rfl
      · exact Vm.b24
      · rfl
      · exact Vm.b86
      · exact Vm.b9
      · exact fun β => rfl
      · exact Vm.b86
end Go.Proofs.Ytjliakjbdcplcaa.Vm
end

section
namespace Go.Proofs.Ytjliakjbdcplcaa.Vm
open Go.RowKit
attribute [local push_cast] runR opG gtmp gval gus opX tmpsOf tm tmO tmP restr look look2 tab tys zs ets eqB eqBL allB numOf ieq Int.cast_ofNat_Int Int.ofNat_zero beq_true beq_false frameOf ev evL ofV opV loadV noW pushF wrsL setH allBorn allGone HB.born HB.isGone HB.val SV.plain dstOk hp nav fitsT SV.size sizeL SV.isAgg TK.size TK.agg bin binE binN binI arN arI cmpN cmpI keq kn narrow callV storeV setp fillV buildV buildSliceV makeV sliceV appendV copyV List.isEmpty_nil srcV evO asN ite_t ite_f ite_bool ite_int ite_nat maxV v_beq v_ble v_blt cond_true cond_false List.getElem?_cons_zero List.getElem?_cons_succ List.getD_cons_zero List.getD_cons_succ List.getD_nil List.length_cons List.length_nil List.take_succ_cons List.take_zero List.set_cons_zero List.set_cons_succ List.cons_append List.nil_append List.append_assoc List.replicate_succ List.replicate_zero Nat.zero_add Nat.add_zero decide_true decide_false Bool.true_and Bool.and_true Bool.false_and Bool.and_false Bool.true_or Bool.or_true Bool.false_or Bool.or_false beq_self_eq_true Bool.or_self Nat.lt_irrefl Nat.not_lt_zero Nat.le_refl Option.getD_some Option.getD_none BEq.rfl Bool.not_true Bool.not_false Bool.cond_true_left Bool.cond_false_right prS sndsS i64S nav_ins nav_ins0 nav_ins1 nav_ins2 nav_ins3 nav_ins4 nav_snd nav_snd0 nav_snd1 nav_snd2 isIns_insS insOf_insS isSnd_sndS sndOf_sndS isI_int isI_nat iOf
set_option linter.unusedVariables false
set_option linter.unusedSimpArgs false
set_option maxRecDepth 100000
set_option maxHeartbeats 4000000
theorem Trace_rej (P : List Ins) (v : Evi) (t s q o y d f : Int) (cs : List Int) (p1 p2 : Nat) (hok : ∀ x ∈ P, x.ok) (hn : P.length ≤ 1000000) (hc : cs.length ≤ 1000000) (hE : ropE P v (begS y t s cs d) f ≠ 0) : LitOk Try.prog 25 [.sl 1 2 [] 5 0 P.length (some p1), .agg [.int .u64 v.seed, .int .i64 v.process, .int .i64 v.ports, .int .i64 v.look, .int .i64 v.now], .agg [.agg [.int .i64 t, .int .i64 s, .int .i64 q], .int .i64 o, .int .i64 y], .sl 3 4 [] 1 0 cs.length (some p2), .int .i64 d, .int .i64 f]
    [.gone, .gone, .ro (.arr P.length 5 (prS P)), .gone, .ro (.arr cs.length 1 (i64S cs))]
    (.tup [.sl 0 0 [] 0 0 0 (some 0), .int .i64 (ropE P v (begS y t s cs d) f)]) [.gone, .gone, .gone, .gone, .gone, .own 3 (.arr 0 1 (i64S [])) false] := by
  obtain ⟨s0, hs0⟩ : ∃ s0, begS y t s cs d = s0 := ⟨_, rfl⟩
  rw [hs0] at hE ⊢
  refine litOkM (fn := Try.f25) 5 46 0 rfl rfl rfl rfl rfl (by simp only [StableL, Stable, hp, i64S, prS, insS, sndsS, sndS, stS, evS, macS, mB, cB, sB, eB, prO, prR, pbB, fbB, HB.stable]; simp [HB.born]) rfl fun w0 M E hro => ?_
  refine WF.empty 3 1 (i64S []) (fun _ q => i64S_stable q) ?_
  repeat' (first | with_reducible (first | apply J1 | apply J3 | apply J4 | apply J5 | apply J6 | apply J7 | apply J8 | apply J9 | apply J10 | apply J11 | apply J12 | apply J13 | apply J14 | apply J15 | apply J16 | apply J17 | apply J18 | apply J19 | apply J20 | refine J2 ?_) | ((with_reducible apply J21); (· rfl)) | ((with_reducible intro hif); first | (focus (cases hif; done)) | (simp only [JH] at hif; try (exfalso; omega)) | (try (exfalso; omega))) | ((first | ((with_reducible apply J22 cRej_ok tab_ok); (· rfl)) | ((with_reducible apply J23 fol cRej_ok tab_ok); (· rfl)) | with_reducible apply J24); (· exact Vm.b63); (try kernel_rfl); (try exact Vm.b62)) | fail)
  apply At.endsPick [0, 1, 2, 3, 4, 5] tab_ok (fn := Try.f25) (rs := [.tmp 12, .tmp 13]) Anc.refl hro (Nat.le_of_ble_eq_true rfl) rfl
  · exact Vm.b5
  · exact Vm.b10
  · rfl
  · rfl
  · rfl
  · exact Vm.b24
  · rfl
  · exact Vm.b86
  · exact Vm.b9
  · exact fun β => rfl
  · exact Vm.b86
theorem Trace_lit (P : List Ins) (v : Evi) (t s q o y d f : Int) (cs : List Int) (p1 p2 : Nat) (hok : ∀ x ∈ P, x.ok) (hn : P.length ≤ 1000000) (hc : cs.length ≤ 1000000) : LitOk Try.prog 25 [.sl 1 2 [] 5 0 P.length (some p1), .agg [.int .u64 v.seed, .int .i64 v.process, .int .i64 v.ports, .int .i64 v.look, .int .i64 v.now], .agg [.agg [.int .i64 t, .int .i64 s, .int .i64 q], .int .i64 o, .int .i64 y], .sl 3 4 [] 1 0 cs.length (some p2), .int .i64 d, .int .i64 f]
    [.gone, .gone, .ro (.arr P.length 5 (prS P)), .gone, .ro (.arr cs.length 1 (i64S cs))]
    (.tup [nilOr (runO P v (begS y t s cs d) f).tr 5, .int .i64 (runO P v (begS y t s cs d) f).bad]) [.gone, .gone, .gone, .gone, .gone, .own 3 (.arr (runO P v (begS y t s cs d) f).tr.length 1 (i64S (runO P v (begS y t s cs d) f).tr)) false] := by
  by_cases hE : ropE P v (begS y t s cs d) f = 0
  · have e : runO P v (begS y t s cs d) f = runA P v f.toNat (begS y t s cs d) Ins0 [] 0 := by unfold runO; rw [if_pos hE]
    obtain ⟨hP, V⟩ := pg_of hok hE
    rw [e]
    exact Trace_go P v t s q o y d f cs p1 p2 hP V hc hE _ rfl
  · have e : runO P v (begS y t s cs d) f = ⟨[], 0, ropE P v (begS y t s cs d) f, zeroSt, Ins0⟩ := by unfold runO; rw [if_neg hE]
    rw [e]
    exact Trace_rej P v t s q o y d f cs p1 p2 hok hn hc hE
theorem TraceS_lit (P : List Ins) (v : Evi) (t s q o y d f : Int) (cs : List Int) (p1 p2 : Nat) (hok : ∀ x ∈ P, x.ok) (hn : P.length ≤ 1000000) (hc : cs.length ≤ 1000000) (hD : (runO P v (begS y t s cs d) f).tr.isEmpty = false) : LitOk Try.prog 25 [.sl 1 2 [] 5 0 P.length (some p1), .agg [.int .u64 v.seed, .int .i64 v.process, .int .i64 v.ports, .int .i64 v.look, .int .i64 v.now], .agg [.agg [.int .i64 t, .int .i64 s, .int .i64 q], .int .i64 o, .int .i64 y], .sl 3 4 [] 1 0 cs.length (some p2), .int .i64 d, .int .i64 f]
    [.gone, .gone, .ro (.arr P.length 5 (prS P)), .gone, .ro (.arr cs.length 1 (i64S cs))]
    (.tup [.sl 5 5 [] 1 0 (runO P v (begS y t s cs d) f).tr.length none, .int .i64 (runO P v (begS y t s cs d) f).bad]) [.gone, .gone, .gone, .gone, .gone, .own 3 (.arr (runO P v (begS y t s cs d) f).tr.length 1 (i64S (runO P v (begS y t s cs d) f).tr)) false] := by
  have H := Trace_lit P v t s q o y d f cs p1 p2 hok hn hc
  rwa [nilOr_f hD] at H
def sTrS : Spec := fun args h m => match args with
  | [v1, .agg [v2, v3, v4, v5, v6], .agg [.agg [v7, v8, v9], v10, v11], v12, v13, v14] => match srcV h 5 (.tup []) v1, srcV h 1 (.tup []) v12 with
    | some (c1, n1, f1, r1), some (c12, n12, f12, r12) => bif isI .u64 v2 && isI .i64 v3 && isI .i64 v4 && isI .i64 v5 && isI .i64 v6 && isI .i64 v7 && isI .i64 v8 && isI .i64 v9 && isI .i64 v10 && isI .i64 v11 && isI .i64 v13 && isI .i64 v14 then some (c1 ∧ c12 ∧ (∀ q, q < n1 → isIns (f1 q) = true) ∧ (∀ q, q < n12 → isI .i64 (f12 q) = true) ∧ ((∀ x ∈ (ls insOf n1 f1), x.ok)) ∧ (n1 ≤ 1000000) ∧ (n12 ≤ 1000000) ∧ ((runO (ls insOf n1 f1) ⟨(iOf v2), (iOf v3), (iOf v4), (iOf v5), (iOf v6)⟩ (begS (iOf v11) (iOf v7) (iOf v8) (ls iOf n12 f12) (iOf v13)) (iOf v14)).tr.isEmpty = false), .tup [.sl m m [] 1 0 (runO (ls insOf n1 f1) ⟨(iOf v2), (iOf v3), (iOf v4), (iOf v5), (iOf v6)⟩ (begS (iOf v11) (iOf v7) (iOf v8) (ls iOf n12 f12) (iOf v13)) (iOf v14)).tr.length none, .int .i64 (runO (ls insOf n1 f1) ⟨(iOf v2), (iOf v3), (iOf v4), (iOf v5), (iOf v6)⟩ (begS (iOf v11) (iOf v7) (iOf v8) (ls iOf n12 f12) (iOf v13)) (iOf v14)).bad], r1 ++ r12, [(m, .own 3 (.arr (runO (ls insOf n1 f1) ⟨(iOf v2), (iOf v3), (iOf v4), (iOf v5), (iOf v6)⟩ (begS (iOf v11) (iOf v7) (iOf v8) (ls iOf n12 f12) (iOf v13)) (iOf v14)).tr.length 1 (i64S (runO (ls insOf n1 f1) ⟨(iOf v2), (iOf v3), (iOf v4), (iOf v5), (iOf v6)⟩ (begS (iOf v11) (iOf v7) (iOf v8) (ls iOf n12 f12) (iOf v13)) (iOf v14)).tr)) false)]) else none
    | _, _ => none
  | _ => none
theorem sTrS_ok : CallOk Try.prog 25 sTrS := by
  refine ⟨named_spec (by kernel_rfl), fun args h m c v rd wr hs hm hc w0 M β h' w R hrd hwr hst => ?_⟩
  unfold sTrS at hs
  split at hs
  · rename_i v1 v2 v3 v4 v5 v6 v7 v8 v9 v10 v11 v12 v13 v14
    split at hs
    · rename_i c1 n1 f1 r1 c12 n12 f12 r12 a1 a12
      obtain ⟨hb, hs⟩ := bif_some hs
      simp only [Option.some.injEq, Prod.mk.injEq] at hs
      obtain ⟨rfl, rfl, rfl, rfl⟩ := hs
      simp only [Bool.and_eq_true] at hb
      obtain ⟨⟨⟨⟨⟨⟨⟨⟨⟨⟨⟨b2, b3⟩, b4⟩, b5⟩, b6⟩, b7⟩, b8⟩, b9⟩, b10⟩, b11⟩, b13⟩, b14⟩ := hb
      obtain ⟨k1, k12, g1, g12, y1, y2, y3, y4⟩ := hc
      obtain ⟨A1, p1, d1, e1, t1⟩ := reads_src R a1 k1 (fun i hi => hrd i (List.mem_append_left _ hi)) (by omega)
      obtain ⟨A12, p12, d12, e12, t12⟩ := reads_src R a12 k12 (fun i hi => hrd i (List.mem_append_right _ hi)) (by omega)
      refine callRo (views := [⟨5, (ls insOf n1 f1).length, prS (ls insOf n1 f1), A1, p1⟩, ⟨1, (ls iOf n12 f12).length, i64S (ls iOf n12 f12), A12, p12⟩]) (TraceS_lit (ls insOf n1 f1) ⟨(iOf v2), (iOf v3), (iOf v4), (iOf v5), (iOf v6)⟩ (iOf v7) (iOf v8) (iOf v9) (iOf v10) (iOf v11) (iOf v13) (iOf v14) (ls iOf n12 f12) p1 p12 y1 (by rw [ls_length]; exact y2) (by rw [ls_length]; exact y3) y4) ?_ R hm hwr ?_ ?_ ?_
      · intro x hx
        simp only [List.mem_cons, List.not_mem_nil, or_false] at hx
        rcases hx with rfl | rfl
        · exact viewIns t1 e1 g1
        · exact viewI64 t12 e12 g12
      · intro β1 hv
        simp only [Vd, ls_length, and_true] at hv
        obtain ⟨z1, z12⟩ := hv
        simp only [denL, aggDen, intDen, natDen, boolDen, ls_length, z1, z12, d1, d12, isI_den b2, isI_den b3, isI_den b4, isI_den b5, isI_den b6, isI_den b7, isI_den b8, isI_den b9, isI_den b10, isI_den b11, isI_den b13, isI_den b14]
      · exact Vm.b86
      · exact Vm.b86
    · cases hs
  · cases hs
end Go.Proofs.Ytjliakjbdcplcaa.Vm
end

section
namespace Go.Proofs.Ytjliakjbdcplcaa.Vm
open Go.RowKit
set_option linter.unusedVariables false
set_option linter.unusedSimpArgs false
theorem made_open (xs : List Ins) {v : Evi} {y t s d : Int} {cs : List Int} (p0 : 0 ≤ v.process) (p1 : v.process ≤ 65536) (o0 : 0 ≤ v.ports) (l0 : 1 ≤ v.look) (t0 : 0 ≤ v.now) (t1 : v.now ≤ 281474976710656) (hc : cs.length ≤ 1024) (d0 : 0 ≤ d) (d1 : d ≤ 1099511627776) : openE (made14 xs) v (begS y t s cs d) = 0 := by
  unfold openE
  have h3 : v.rightB = true := decide_eq_true ⟨p0, p1, o0, l0, t0, t1⟩
  have hl := (made14_le xs).1
  have h4 : (begS y t s cs d).rightB (made14 xs).length = true := decide_eq_true ⟨Int.le_refl 0, by show (0 : Int) < _; omega, by show (cs.length : Int) ≤ 1024; omega, d0, d1⟩
  rw [if_neg (fun h => h (made14_right xs)), if_neg (by rw [h3]; exact Bool.noConfusion), if_neg (by rw [h4]; exact Bool.noConfusion)]
end Go.Proofs.Ytjliakjbdcplcaa.Vm
end

section
namespace Go.Proofs.Ytjliakjbdcplcaa.Vm
open Go.RowKit
set_option linter.unusedVariables false
set_option linter.unusedSimpArgs false
section
variable {P : List Ins} {v : Evi}
theorem runA_le : ∀ (n : Nat) (s : Sta) (x : Ins) (tr : List Int) (a : Int), tr.length ≤ (runA P v n s x tr a).tr.length ∧ (runA P v n s x tr a).tr.length ≤ tr.length + n
  | 0, s, x, tr, a => by
    unfold runA
    split <;> simp
  | n + 1, s, x, tr, a => by
    unfold runA
    split
    · simp
    · split
      · have := runA_le n (stepS P v s) (stepX P s x) (tr ++ [s.at_]) s.at_
        simp at this
        omega
      · simp
theorem runA_more {m : Nat} {s : Sta} {x : Ins} {tr : List Int} {a : Int} (he : s.ended = false) (hm : 0 < m) : tr.length < (runA P v m s x tr a).tr.length := by
  by_cases hs : stepE P v s = 0
  · rw [runA_go he hm hs]
    have := (runA_le (P := P) (v := v) (m - 1) (stepS P v s) (stepX P s x) (tr ++ [s.at_]) s.at_).1
    simp at this
    omega
  · rw [runA_bad he hm hs]; simp
variable {s : Sta} {F n : Int}
theorem ropE_of (hO : openE P v s = 0) (h0 : 0 ≤ F) (h1 : F ≤ 4096) : ropE P v s F = 0 := by
  unfold ropE
  have : rrE F = 0 := by unfold rrE; rw [if_neg (by omega)]
  rw [if_pos this]; exact hO
theorem runO_of (hO : openE P v s = 0) (h0 : 0 ≤ F) (h1 : F ≤ 4096) : runO P v s F = runA P v F.toNat s Ins0 [] 0 := by
  unfold runO; rw [if_pos (ropE_of hO h0 h1)]
theorem runO_le (hO : openE P v s = 0) (h0 : 0 ≤ F) (h1 : F ≤ 4096) : ((runO P v s F).tr.length : Int) ≤ F := by
  rw [runO_of hO h0 h1]
  have := (runA_le (P := P) (v := v) F.toNat s Ins0 [] 0).2
  simp at this
  omega
end
theorem runA_good {P : List Ins} {v : Evi} (hP : PG P) : ∀ (n : Nat) (s : Sta) (x : Ins) (tr : List Int) (a : Int), SG P s → SG P (runA P v n s x tr a).s
  | 0, s, x, tr, a, h => by
    unfold runA
    split <;> exact h
  | n + 1, s, x, tr, a, h => by
    unfold runA
    split
    · exact h
    · split
      · exact runA_good hP n _ _ _ _ (stepS_good h hP)
      · exact stepS_good h hP
theorem runO_good' {P : List Ins} {v : Evi} {s : Sta} {F : Int} (hx : ∀ x ∈ P, x.ok) (hO : openE P v s = 0) (hn : s.sends.length ≤ 1000000) (h0 : 0 ≤ F) (h1 : F ≤ 4096) : SG P (runO P v s F).s := by
  rw [runO_of hO h0 h1]
  have q := openE_zero hO
  exact runA_good ⟨hx, q.1⟩ _ _ _ _ _ (SG.of q.2.2 hn)
end Go.Proofs.Ytjliakjbdcplcaa.Vm
end

section
namespace Go.Proofs.Ytjliakjbdcplcaa.Vm
open Go.RowKit
set_option linter.unusedVariables false
set_option linter.unusedSimpArgs false
def cnt (P : List Ins) (op : Int) (tr : List Int) : Nat := (tr.filter fun k => decide ((insAt P k).op = op)).length
theorem cnt_app (P : List Ins) (op : Int) (tr : List Int) (k : Int) : cnt P op (tr ++ [k]) = cnt P op tr + (if (insAt P k).op = op then 1 else 0) := by
  unfold cnt
  rw [List.filter_append, List.length_append]
  congr 1
  by_cases h : (insAt P k).op = op <;> simp [h]
def chg (a b : List Int) : Nat := ((List.range a.length).filter fun i => decide (a.getD i 0 ≠ b.getD i 0)).length
theorem chg_self (a : List Int) : chg a a = 0 := by simp [chg]
theorem filter_one {l : List Nat} (hl : l.Nodup) (p q : Nat → Bool) (r : Nat) (h : ∀ i, i ≠ r → p i = q i) : (l.filter p).length ≤ (l.filter q).length + 1 := by
  induction l with
  | nil => simp
  | cons x l ih =>
    rw [List.nodup_cons] at hl
    by_cases hx : x = r
    · subst hx
      have e : l.filter p = l.filter q := List.filter_congr fun i hi => h i (fun e => hl.1 (e ▸ hi))
      simp only [List.filter_cons, e]
      cases p x <;> cases q x <;> simp only [cond_true, cond_false, if_true, if_false, List.length_cons, Bool.false_eq_true] <;> omega
    · have := ih hl.2
      simp only [List.filter_cons, h x hx]
      cases q x <;> simp only [if_true, if_false, List.length_cons, Bool.false_eq_true] <;> omega
theorem chg_set (a b : List Int) (r : Nat) (z : Int) : chg a (b.set r z) ≤ chg a b + 1 := by
  unfold chg
  refine filter_one List.nodup_range _ _ r fun i hi => ?_
  rw [List.getD_eq_getElem?_getD (l := b.set r z), List.getElem?_set_ne (fun e => hi e.symm), ← List.getD_eq_getElem?_getD]
structure SI (P : List Ins) (v : Evi) (c0 : List Int) (d0 : Int) (tr : List Int) (s : Sta) : Prop where
  at_ : ∀ k ∈ tr, 0 ≤ k ∧ k < P.length
  n : s.sends.length = cnt P 8 tr
  d : s.draws = d0 + cnt P 7 tr
  l : s.cells.length = c0.length
  c : chg c0 s.cells ≤ cnt P 6 tr
  s : ∀ y ∈ s.sends, 0 ≤ y.port ∧ y.port < v.ports ∧ v.look ≤ y.delay ∧ y.delay ≤ 281474976710656 - v.now
theorem si_step {P : List Ins} {v : Evi} {c0 : List Int} {d0 : Int} {tr : List Int} {s : Sta} (hP : PG P) (h : SI P v c0 d0 tr s) (hG : SG P s) (he : s.ended = false) (hs : stepE P v s = 0) : SI P v c0 d0 (tr ++ [s.at_]) (stepS P v s) := by
  have hE : doE s v (insAt P s.at_) = 0 := by unfold stepE at hs; rw [he] at hs; exact hs
  have e0 : stepS P v s = doS s v (insAt P s.at_) := by unfold stepS; rw [he]; rfl
  have R := hG.ri hP
  rw [e0]
  have ht : ∀ k ∈ tr ++ [s.at_], 0 ≤ k ∧ k < P.length := fun k hk => by
    rw [List.mem_append] at hk
    rcases hk with hk | hk
    · exact h.at_ k hk
    · simp at hk; subst hk; exact ⟨hG.a0, hG.a1⟩
  have c6 := cnt_app P 6 tr s.at_
  have c7 := cnt_app P 7 tr s.at_
  have c8 := cnt_app P 8 tr s.at_
  generalize hx : insAt P s.at_ = x at *
  have hd := h.d
  have hn := h.n
  have hc := h.c
  -- the same lists and draws
  have base : ∀ t : Sta, t.sends = s.sends → t.draws = s.draws → t.cells = s.cells → x.op ≠ 7 → x.op ≠ 8 → SI P v c0 d0 (tr ++ [s.at_]) t := fun t h1 h2 h3 n7 n8 => by
    rw [if_neg n7] at c7
    rw [if_neg n8] at c8
    exact ⟨ht, by rw [h1, c8, hn]; rfl, by rw [h2, c7, hd]; rfl, by rw [h3, h.l], by rw [h3, c6]; omega, by rw [h1]; exact h.s⟩
  rcases R.cls with q | q | q | q | q | q | q | q | q | q | q | q
  · rw [show doS s v x = { s with ended := true } by simp [doS, hE, q]]; exact base _ rfl rfl rfl (by omega) (by omega)
  · exact absurd hE (by simp [doE, q])
  · rw [show doS s v x = s.put x.a.toNat x.n by simp [doS, hE, q]]; exact base _ rfl rfl rfl (by omega) (by omega)
  · rw [show doS s v x = s.put x.a.toNat (s.regs x.b.toNat) by simp [doS, hE, q]]; exact base _ rfl rfl rfl (by omega) (by omega)
  · rw [show doS s v x = s.put x.a.toNat (s.cells.getD (s.regs x.b.toNat).toNat 0) by simp [doS, hE, q]]; exact base _ rfl rfl rfl (by omega) (by omega)
  · rw [show doS s v x = { s with cells := s.cells.set (s.regs x.b.toNat).toNat (s.regs x.a.toNat), at_ := s.at_ + 1 } by simp [doS, hE, q]]
    rw [if_neg (by omega)] at c7 c8
    rw [if_pos q] at c6
    refine ⟨ht, by rw [c8]; exact hn, by rw [c7]; exact hd, by simpa using h.l, ?_, h.s⟩
    have := chg_set c0 s.cells (s.regs x.b.toNat).toNat (s.regs x.a.toNat)
    rw [c6]
    exact Nat.le_trans this (by omega)
  · rw [show doS s v x = { s.put x.a.toNat (drawI v.seed v.process s.draws (s.regs x.b.toNat)) with draws := s.draws + 1 } by simp [doS, hE, q]]
    rw [if_neg (by omega)] at c8 c6
    rw [if_pos q] at c7
    refine ⟨ht, by rw [c8]; exact hn, ?_, h.l, by rw [c6]; exact hc, h.s⟩
    show s.draws + 1 = _
    rw [c7]
    omega
  · rw [show doS s v x = { s with at_ := s.at_ + 1, sends := s.sends ++ [⟨x.n, s.regs x.a.toNat, s.regs x.b.toNat⟩] } by simp [doS, hE, q]]
    rw [if_neg (by omega)] at c7 c6
    rw [if_pos q] at c8
    refine ⟨ht, ?_, by rw [c7]; exact hd, h.l, by rw [c6]; exact hc, fun y hy => ?_⟩
    · show (s.sends ++ [_]).length = _
      rw [List.length_append, c8, hn]; rfl
    · rw [List.mem_append] at hy
      rcases hy with hy | hy
      · exact h.s y hy
      · simp at hy
        subst hy
        have hx8 := R.snd q
        have h3 : sendE s v x = 0 := by
          have : doE s v x = sendE s v x := by simp [doE, q]
          rw [← this]; exact hE
        unfold sendE at h3
        split at h3
        · omega
        · split at h3
          · omega
          · split at h3
            · omega
            · refine ⟨hx8.1, ?_, ?_, ?_⟩ <;> dsimp only <;> omega
  · rw [show doS s v x = { s with at_ := x.n } by simp [doS, hE, q]]; exact base _ rfl rfl rfl (by omega) (by omega)
  · rw [show doS s v x = { s with at_ := if s.regs x.a.toNat = 0 then x.n else s.at_ + 1 } by simp [doS, hE, q]]; exact base _ rfl rfl rfl (by omega) (by omega)
  · rw [show doS s v x = { s with at_ := if s.regs x.a.toNat < 0 then x.n else s.at_ + 1 } by simp [doS, hE, q]]; exact base _ rfl rfl rfl (by omega) (by omega)
  · rw [show doS s v x = s.put x.a.toNat (applyV (x.op - 32) (s.regs x.b.toNat) (s.regs x.c.toNat)) by
      unfold doS
      rw [hE]
      simp [show ¬ x.op = 1 by omega, show ¬ x.op = 3 by omega, show ¬ x.op = 4 by omega, show ¬ x.op = 5 by omega, show ¬ x.op = 6 by omega, show ¬ x.op = 7 by omega, show ¬ x.op = 8 by omega, show ¬ x.op = 9 by omega, show ¬ x.op = 10 by omega, show ¬ x.op = 11 by omega]]
    exact base _ rfl rfl rfl (by omega) (by omega)
theorem si_run {P : List Ins} {v : Evi} {c0 : List Int} {d0 : Int} (hP : PG P) : ∀ (n : Nat) (s : Sta) (x : Ins) (tr : List Int) (a : Int), SI P v c0 d0 tr s → SG P s → (runA P v n s x tr a).bad = 0 → SI P v c0 d0 (runA P v n s x tr a).tr (runA P v n s x tr a).s
  | 0, s, x, tr, a, h, hG, hb => by
    cases he : s.ended
    · rw [runA_zero he] at hb; cases hb
    · rw [runA_end he]; exact h
  | n + 1, s, x, tr, a, h, hG, hb => by
    cases he : s.ended
    · by_cases hs : stepE P v s = 0
      · rw [runA_go he (Nat.succ_pos n) hs] at hb ⊢
        exact si_run hP n _ _ _ _ (si_step hP h hG he hs) (stepS_good hG hP) hb
      · rw [runA_bad he (Nat.succ_pos n) hs] at hb
        exact absurd hb hs
    · rw [runA_end he]; exact h
end Go.Proofs.Ytjliakjbdcplcaa.Vm
end

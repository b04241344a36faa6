import Derived.Test.YtjliakjbdcplcaaG7
import Derived.Test.YtjliakjbdcplcaaG8
import Derived.Test.YtjliakjbdcplcaaG10
import Derived.Test.YtjliakjbdcplcaaG12
import Derived.Test.YtjliakjbdcplcaaG13
section
namespace Go.Proofs.Ytjliakjbdcplcaa.Vm
theorem b87 {P : Prop} (h : P := by (repeat' (first | exact trivial | exact rfl | assumption | apply Stable.ite | apply And.intro | intro _ | (simp only [Stable, StableL, i64S, u8S, prS, insS, sndsS, sndS, stS, evS, macS, mB, cB, sB, eB, prO, rB, rvS, clA, clB, clC, fsS, HB.stable]; done)))) : P := h
theorem b88 {P : Prop} (h : P := by ((repeat' (first | exact trivial | apply And.intro)) <;> (first | rfl | (show some (SV.int .i64 (fuel.tmod 512)) = some (SV.int .i64 (fuel.tmod 512 - 0)); rw [Int.sub_zero])))) : P := h
theorem b89 {P : Prop} (h : P := by dsimp only; exact ⟨⟨by rw [hlQ]; exact hC.on (R := R) hm1 hQ hq, by omega, by omega⟩, by omega⟩) : P := h
theorem b90 {P : Prop} (h : P := by (repeat' (first | exact trivial | exact ⟨_, rfl, fun β => rfl⟩ | apply And.intro | exact ⟨_, rfl, hde⟩))) : P := h
theorem b91 {P : Prop} (h : P := by (repeat' (first | exact trivial | exact .inl rfl | exact .inr (.same _) | exact .inr .loose | exact .inr (.arr (by assumption)) | apply And.intro | (first | (rw [hat]; exact .inr (.same _)) | (rw [hat, hlW]; exact .inr (.same _)))))) : P := h
theorem b92 {P : Prop} (h : P := by (first | exact True.intro | ((try simp only [JS, implies_true, forall_const, shaped, shapedL, kndOf, capB]); (repeat' (first | exact True.intro | assumption | omega | apply And.intro | rfl | decide | intro _)); done) | ((try simp only [JS, implies_true, forall_const, shaped, shapedL, kndOf, inR, inN]); (repeat' (first | assumption | exact True.intro | omega | apply And.intro)); done))) : P := h
theorem b93 {P : Prop} (h : P := by (simp only [push_cast, ↓JP, Nat.reduceAdd, Nat.reduceEqDiff, Nat.reduceLT, Nat.reduceMul, Nat.reduceLeDiff, reduceCtorEq, reduceIte, ↓JK, JM, JE, JB, cCtG, sAw19, sMd19, sNewG, sCrG, sCrB, rGo, rGoQ, rState, rStateQ, rUsed, rUsedQ, sEqI64, sEqSnd, rBack, sISame, sBegin, runP, engP, macP, prP, clP, nodupN, memN, rB, rvS, eB, clA, clB, clC, fsS, prO, inR, inN, Nat.sub_zero, hl, hj, u8S, hQ, hgv, hgw, goU]; rfl)) : P := h
theorem b94 {P : Prop} (h : P := by (simp only [push_cast, ↓JP, Nat.reduceAdd, Nat.reduceEqDiff, Nat.reduceLT, Nat.reduceMul, Nat.reduceLeDiff, reduceCtorEq, reduceIte, ↓JK, JM, JE, JB, cCtG, sAw19, sMd19, sNewG, sCrG, sCrB, rGo, rGoQ, rState, rStateQ, rUsed, rUsedQ, sEqI64, sEqSnd, rBack, sISame, sBegin, runP, engP, macP, prP, clP, nodupN, memN, rB, rvS, eB, clA, clB, clC, fsS, prO, inR, inN, Nat.sub_zero, hl, hj, u8S, hQ, hgv, hgw, goU, e1, e3, hat, hend, eq_self, eqL_self, hb]; rfl)) : P := h
theorem b95 {P : Prop} (h : P := by (simp only [push_cast, ↓JP, Nat.reduceAdd, Nat.reduceEqDiff, Nat.reduceLT, Nat.reduceMul, Nat.reduceLeDiff, reduceCtorEq, reduceIte, ↓JK, JM, JE, JB, cCtG, sAw19, sMd19, sNewG, sCrG, sCrB, rGo, rGoQ, rState, rStateQ, rUsed, rUsedQ, sEqI64, sEqSnd, rBack, sISame, sBegin, runP, engP, macP, prP, clP, nodupN, memN, rB, rvS, eB, clA, clB, clC, fsS, prO, inR, inN, Nat.sub_zero, hl, hj, hQ, hgv, hgw, goU]; rfl)) : P := h
theorem b96 {P : Prop} (h : P := by (simp only [push_cast, ↓JP, Nat.reduceAdd, Nat.reduceEqDiff, Nat.reduceLT, Nat.reduceMul, Nat.reduceLeDiff, reduceCtorEq, reduceIte, ↓JK, JM, JE, JB, cCtG, sAw19, sMd19, sNewG, sCrG, sCrB, rGo, rGoQ, rState, rStateQ, rUsed, rUsedQ, sEqI64, sEqSnd, rBack, sISame, sBegin, runP, engP, macP, prP, clP, nodupN, memN, rB, rvS, eB, clA, clB, clC, fsS, prO, inR, inN, Nat.sub_zero, hl, hj, hQ, hgv, hgw, goU, e1, e3, hat, hend, eq_self, eqL_self, hb]; rfl)) : P := h
theorem b97 {P : Prop} (h : P := by (simp only [push_cast, ↓JP, Nat.reduceAdd, Nat.reduceEqDiff, Nat.reduceLT, Nat.reduceMul, Nat.reduceLeDiff, reduceCtorEq, reduceIte, ↓JK, JM, JE, JB, cCtB, sAw19, sMd19, sNewG, sCrG, sCrB, rGo, rGoQ, rState, rStateQ, rUsed, rUsedQ, sEqI64, sEqSnd, rBack, sISame, sBegin, runP, engP, macP, prP, clP, nodupN, memN, rB, rvS, eB, clA, clB, clC, fsS, prO, inR, inN, Nat.sub_zero, hk2]; rfl)) : P := h
theorem b98 {P : Prop} (h : P := by (simp only [push_cast, ↓JP, Nat.reduceAdd, Nat.reduceEqDiff, Nat.reduceLT, Nat.reduceMul, Nat.reduceLeDiff, reduceCtorEq, reduceIte, ↓JK, JM, JE, JB, cCtB, sAw19, sMd19, sNewG, sCrG, sCrB, rGo, rGoQ, rState, rStateQ, rUsed, rUsedQ, sEqI64, sEqSnd, rBack, sISame, sBegin, runP, engP, macP, prP, clP, nodupN, memN, rB, rvS, eB, clA, clB, clC, fsS, prO, inR, inN, Nat.sub_zero, hl, hj, u8S, hQ, hgv, hgw, goU]; rfl)) : P := h
theorem b99 {P : Prop} (h : P := by (simp only [push_cast, ↓JP, Nat.reduceAdd, Nat.reduceEqDiff, Nat.reduceLT, Nat.reduceMul, Nat.reduceLeDiff, reduceCtorEq, reduceIte, ↓JK, JM, JE, JB, cCtB, sAw19, sMd19, sNewG, sCrG, sCrB, rGo, rGoQ, rState, rStateQ, rUsed, rUsedQ, sEqI64, sEqSnd, rBack, sISame, sBegin, runP, engP, macP, prP, clP, nodupN, memN, rB, rvS, eB, clA, clB, clC, fsS, prO, inR, inN, Nat.sub_zero, hl, hj, hQ, hgv, hgw, goU]; rfl)) : P := h
theorem b100 {P : Prop} (h : P := by (simp only [push_cast, ↓JP, Nat.reduceAdd, Nat.reduceEqDiff, Nat.reduceLT, Nat.reduceMul, Nat.reduceLeDiff, reduceCtorEq, reduceIte, ↓JK, JM, JE, JB, cCtB, sAw19, sMd19, sNewG, sCrG, sCrB, rGo, rGoQ, rState, rStateQ, rUsed, rUsedQ, sEqI64, sEqSnd, rBack, sISame, sBegin, runP, engP, macP, prP, clP, nodupN, memN, rB, rvS, eB, clA, clB, clC, fsS, prO, inR, inN, Nat.sub_zero]; rfl)) : P := h
theorem b101 {P : Prop} (h : P := by (simp only [push_cast, ↓JP, Nat.reduceAdd, Nat.reduceEqDiff, Nat.reduceLT, Nat.reduceMul, Nat.reduceLeDiff, reduceCtorEq, reduceIte, ↓JK, JM, JE, JB, cCtB, sAw19, sMd19, sNewG, sCrG, sCrB, rGo, rGoQ, rState, rStateQ, rUsed, rUsedQ, sEqI64, sEqSnd, rBack, sISame, sBegin, runP, engP, macP, prP, clP, nodupN, memN, rB, rvS, eB, clA, clB, clC, fsS, prO, inR, inN, Nat.sub_zero, hl, hj, u8S, hQ, hgv, hgw, goU, e1, e3, hat, hend, eq_self, eqL_self, hb0, hne]; rfl)) : P := h
theorem b102 {P : Prop} (h : P := by (simp only [push_cast, ↓JP, Nat.reduceAdd, Nat.reduceEqDiff, Nat.reduceLT, Nat.reduceMul, Nat.reduceLeDiff, reduceCtorEq, reduceIte, ↓JK, JM, JE, JB, cCtB, sAw19, sMd19, sNewG, sCrG, sCrB, rGo, rGoQ, rState, rStateQ, rUsed, rUsedQ, sEqI64, sEqSnd, rBack, sISame, sBegin, runP, engP, macP, prP, clP, nodupN, memN, rB, rvS, eB, clA, clB, clC, fsS, prO, inR, inN, Nat.sub_zero, hl, hj, hQ, hgv, hgw, goU, e1, e3, hat, hend, eq_self, eqL_self, hb0, hne]; rfl)) : P := h
end Go.Proofs.Ytjliakjbdcplcaa.Vm
end
section
namespace Go.Proofs.Ytjliakjbdcplcaa.Vm
open Go.RowKit
attribute [local push_cast] runR opG gtmp gval gus opX tmpsOf tm tmO tmP restr look look2 tab tys zs ets eqB eqBL allB numOf ieq Int.cast_ofNat_Int Int.ofNat_zero beq_true beq_false frameOf ev evL ofV opV loadV noW pushF wrsL setH allBorn allGone HB.born HB.isGone HB.val SV.plain dstOk hp nav fitsT SV.size sizeL SV.isAgg TK.size TK.agg bin binE binN binI arN arI cmpN cmpI keq kn narrow callV storeV setp fillV buildV buildSliceV makeV sliceV appendV copyV List.isEmpty_nil srcV evO asN ite_t ite_f ite_bool ite_int ite_nat maxV v_beq v_ble v_blt cond_true cond_false List.getElem?_cons_zero List.getElem?_cons_succ List.getD_cons_zero List.getD_cons_succ List.getD_nil List.length_cons List.length_nil List.take_succ_cons List.take_zero List.set_cons_zero List.set_cons_succ List.cons_append List.nil_append List.append_assoc List.replicate_succ List.replicate_zero Nat.zero_add Nat.add_zero decide_true decide_false Bool.true_and Bool.and_true Bool.false_and Bool.and_false Bool.true_or Bool.or_true Bool.false_or Bool.or_false beq_self_eq_true Bool.or_self Nat.lt_irrefl Nat.not_lt_zero Nat.le_refl Option.getD_some Option.getD_none BEq.rfl Bool.not_true Bool.not_false Bool.cond_true_left Bool.cond_false_right prS sndsS i64S nav_ins nav_ins0 nav_ins1 nav_ins2 nav_ins3 nav_ins4 nav_snd nav_snd0 nav_snd1 nav_snd2 isIns_insS insOf_insS isSnd_sndS sndOf_sndS isI_int isI_nat iOf
set_option linter.unusedVariables false
set_option linter.unusedSimpArgs false
set_option maxRecDepth 100000
set_option maxHeartbeats 4000000
structure CZ where
  i : Nat
  n : Nat
  W : RR
def cCtG : FuncId → Option Spec := look2 [(12, sAw19), (13, sMd19), (16, sNewG), (14, sCrG), (17, rGo), (18, rState), (19, rUsed), (20, sEqI64), (21, sEqSnd), (22, rBack), (23, sISame), (24, sBegin)]
theorem cCtG_ok : ∀ f S, cCtG f = some S → CallOk Try.prog f S := allOk_spec ⟨sAw19_ok, sMd19_ok, sNewG_ok, sCrG_ok, rGo_ok, rState_ok, rUsed_ok, sEqI64_ok, sEqSnd_ok, rBack_ok, sISame_ok, sBegin_ok, trivial⟩
def cCtB : FuncId → Option Spec := look2 [(12, sAw19), (13, sMd19), (16, sNewG), (14, sCrB), (17, rGo), (18, rState), (19, rUsed), (20, sEqI64), (21, sEqSnd), (22, rBack), (23, sISame), (24, sBegin)]
theorem cCtB_ok : ∀ f S, cCtB f = some S → CallOk Try.prog f S := allOk_spec ⟨sAw19_ok, sMd19_ok, sNewG_ok, sCrB_ok, rGo_ok, rState_ok, rUsed_ok, sEqI64_ok, sEqSnd_ok, rBack_ok, sISame_ok, sBegin_ok, trivial⟩
theorem cuts_good (xs : List Ins) (a d sn time source value fuel : Int) (rg : Nat → Int) (cs ps : List Int) (v : Evi) (p1 p2 p3 : Nat) (hx : ∀ x ∈ xs, x.ok) (hcap : max xs.length p1 ≤ 9223372036854775807) (hcp : cs.length ≤ p2) (ha : 0 ≤ a ∧ a ≤ 255) (hd : 0 ≤ d ∧ d ≤ 4294967295) (hs : 0 ≤ sn ∧ sn ≤ 255) (ht : 0 ≤ time ∧ time ≤ 4294967295) (hso : 0 ≤ source ∧ source ≤ 255) (hf : 0 ≤ fuel ∧ fuel ≤ 65535) (hps : ∀ q, 0 ≤ ps.getD q 0 ∧ ps.getD q 0 ≤ 255) (hpl : ps.length ≤ p3) (hp3 : p3 ≤ 9223372036854775807) (R : RR) (hR : runO (made14 xs) ⟨v.seed, IntKind.wrap .u16 v.process, (IntKind.wrap .u8 v.ports).tmod 17, 1 + IntKind.wrap .u8 v.look, time⟩ (begS value time source (cs.take 12) d) (fuel.tmod 512) = R) (hb : R.bad = 0) : LitOk Try.prog 4
    [.agg [.sl 1 2 [] 5 0 xs.length (some p1), .agg [.int .u8 a, .arr 8 1 (fun q => .int .i64 (rg q)), .sl 3 4 [] 1 0 cs.length (some p2), .int .u32 d, .int .u8 sn], .agg [.int .u64 v.seed, .int .i64 v.process, .int .i64 v.ports, .int .i64 v.look, .int .i64 v.now], .int .u32 time, .int .u8 source, .int .i64 value, .int .u16 fuel], .sl 5 6 [] 1 0 ps.length (some p3)]
    [.gone, .gone, .ro (.arr xs.length 5 (prS xs)), .gone, .ro (.arr cs.length 1 (i64S cs)), .gone, .ro (.arr ps.length 1 (u8S ps))] (.bool true) [.gone] := by
  have w1 := wrap_u16 v.process
  have w2 := wrap_u8 v.ports
  have w3 := wrap_u8 v.look
  have f0 := Int.tmod_nonneg 512 hf.1
  have f1 := Int.tmod_lt_of_pos fuel (show (0 : Int) < 512 by decide)
  have pt0 := Int.tmod_nonneg 17 w2.1
  have hok := made14_ok xs hx
  have hml := (made14_le xs).2
  have hml0 := (made14_le xs).1
  have hn : (made14 xs).length ≤ 1000000 := by omega
  have hct : (cs.take 12).length ≤ 12 := by rw [List.length_take]; omega
  have hcl : (cs.take 12).length ≤ 1000000 := by omega
  have hO : openE (made14 xs) ⟨v.seed, IntKind.wrap .u16 v.process, (IntKind.wrap .u8 v.ports).tmod 17, 1 + IntKind.wrap .u8 v.look, time⟩ (begS value time source (cs.take 12) d) = 0 := made_open xs w1.1 (by show IntKind.wrap .u16 v.process ≤ 65536; omega) pt0 (by show 1 ≤ 1 + IntKind.wrap .u8 v.look; omega) ht.1 (by show time ≤ 281474976710656; omega) (by omega) hd.1 (by omega)
  have hPG : PG (made14 xs) := ⟨hok, (openE_zero hO).1⟩
  have hVO : VOk ⟨v.seed, IntKind.wrap .u16 v.process, (IntKind.wrap .u8 v.ports).tmod 17, 1 + IntKind.wrap .u8 v.look, time⟩ := VOk.of (openE_zero hO).2.1
  have hSG : SG (made14 xs) (begS value time source (cs.take 12) d) := SG.of (openE_zero hO).2.2 (by simp [begS])
  have hRA : runA (made14 xs) ⟨v.seed, IntKind.wrap .u16 v.process, (IntKind.wrap .u8 v.ports).tmod 17, 1 + IntKind.wrap .u8 v.look, time⟩ (fuel.tmod 512).toNat (begS value time source (cs.take 12) d) Ins0 [] 0 = R := by rw [← hR, runO_of hO f0 (by omega)]
  have hGR : SG (made14 xs) R.s := by rw [← hRA]; exact runA_good hPG _ _ _ _ _ hSG
  have hcR := hGR.c1
  have hnR := hGR.n1
  have hatR := runA_at (P := (made14 xs)) (v := ⟨v.seed, IntKind.wrap .u16 v.process, (IntKind.wrap .u8 v.ports).tmod 17, 1 + IntKind.wrap .u8 v.look, time⟩) (fuel.tmod 512).toNat (begS value time source (cs.take 12) d) Ins0 [] 0 (fun h => by cases h)
  rw [hRA] at hatR
  obtain ⟨hat, hend⟩ := hatR
  have hleR := (runA_le (P := (made14 xs)) (v := ⟨v.seed, IntKind.wrap .u16 v.process, (IntKind.wrap .u8 v.ports).tmod 17, 1 + IntKind.wrap .u8 v.look, time⟩) (fuel.tmod 512).toNat (begS value time source (cs.take 12) d) Ins0 [] 0).2
  rw [hRA] at hleR
  simp only [List.length_nil] at hleR
  rw [hb] at hend
  simp only [decide_true] at hend
  have hne : R.bad ≠ 190 := by omega
  refine litOkM (fn := Try.f4) 7 166 0 rfl rfl rfl rfl rfl (by simp only [StableL, Stable, hp, i64S, u8S, prS, insS, sndsS, sndS, stS, evS, macS, mB, cB, sB, eB, prO, rB, rvS, clA, clB, clC, fsS, HB.stable]; simp [HB.born]) rfl fun w0 M E hro => ?_

  repeat' (first | with_reducible (first | apply J1 | apply J3 | apply J4 | apply J5 | apply J6 | apply J7 | apply J8 | apply J9 | apply J10 | apply J11 | apply J12 | apply J13 | apply J14 | apply J15 | apply J16 | apply J17 | apply J18 | apply J19 | apply J20 | refine J2 ?_) | ((with_reducible apply J21); (· rfl)) | ((with_reducible intro hif); first | (focus (cases hif; done)) | (simp only [JH] at hif; try (exfalso; omega)) | (try (exfalso; omega))) | ((first | ((with_reducible apply J22 cCtG_ok tab_ok); (· rfl)) | ((with_reducible apply J23 fol cCtG_ok tab_ok); (· rfl)) | with_reducible apply J24); (· (simp only [push_cast, ↓JP, Nat.reduceAdd, Nat.reduceEqDiff, Nat.reduceLT, Nat.reduceMul, Nat.reduceLeDiff, reduceCtorEq, reduceIte, ↓JK, JM, JE, JB, cCtG, sAw19, sMd19, sNewG, sCrG, sCrB, rGo, rGoQ, rState, rStateQ, rUsed, rUsedQ, sEqI64, sEqSnd, rBack, sISame, sBegin, runP, engP, macP, prP, clP, nodupN, memN, rB, rvS, eB, clA, clB, clC, fsS, prO, inR, inN, Nat.sub_zero, hR, hb]; rfl)); (try kernel_rfl); (try exact Vm.b92)) | fail)
  refine WF.loopAt (fun (k : Nat) => k ≤ 2) (fun (k : Nat) => [(1, .sl 5 6 [] 1 0 ps.length (some p3)), (5, .ptr 10 []), (6, .ptr 11 []), (8, .ptr 24 []), (9, .int .i64 0), (46, .nat .i64 k)]) (fun (k : Nat) => [.gone, .gone, .ro (.arr xs.length 5 (prS xs)), .gone, .ro (.arr cs.length 1 (i64S cs)), .gone, .ro (.arr ps.length 1 (u8S ps)), .gone, .own 73 (.arr (made14 xs).length 5 (prS (made14 xs))) false, .own 2 (.arr (cs.take 12).length 1 (i64S (cs.take 12))) false, .own 41 (.agg [.sl 8 8 [] 5 0 (made14 xs).length none, .agg [.int .u64 v.seed, .int .i64 (IntKind.wrap .u16 v.process), .int .i64 ((IntKind.wrap .u8 v.ports).tmod 17), .int .i64 (1 + IntKind.wrap .u8 v.look), .int .i64 time], .agg [.agg [.int .i64 time, .int .i64 source, .int .i64 1], .int .i64 0, .int .i64 value], .sl 9 9 [] 1 0 (cs.take 12).length none, .int .i64 d, .int .i64 (fuel.tmod 512)]) true, rB 12 17 18 19 0 false, eB 13 16 (made14 xs).length, mB (begS value time source (cs.take 12) d) ⟨v.seed, IntKind.wrap .u16 v.process, (IntKind.wrap .u8 v.ports).tmod 17, 1 + IntKind.wrap .u8 v.look, time⟩ Ins0 14 15, cB (begS value time source (cs.take 12) d), sB (begS value time source (cs.take 12) d), prO (made14 xs), clA 20 (made14 xs).length, clB ⟨v.seed, IntKind.wrap .u16 v.process, (IntKind.wrap .u8 v.ports).tmod 17, 1 + IntKind.wrap .u8 v.look, time⟩, clC (begS value time source (cs.take 12) d) 21, prO (made14 xs), cB (begS value time source (cs.take 12) d), cB R.s, sB R.s, .own 45 (.agg [.nat .i64 R.tr.length, .int .i64 R.at_, .sl 22 22 [] 1 0 R.s.cells.length none, .int .i64 R.s.draws, .sl 23 23 [] 3 0 R.s.sends.length none]) true]) (fun (k : Nat) => 2 - k) 0 (by omega) ?_ ?_ rfl ?_ ?_ rfl ?_
  · exact Vm.b10
  · exact Vm.b7
  · exact Vm.b87
  · exact Vm.b87
  intro k hk
  by_cases hk2 : k < 2
  · skip
    repeat' (first | with_reducible (first | apply J1 | apply J3 | apply J4 | apply J5 | apply J6 | apply J7 | apply J8 | apply J9 | apply J10 | apply J11 | apply J12 | apply J13 | apply J14 | apply J15 | apply J16 | apply J17 | apply J18 | apply J19 | apply J20 | refine J2 ?_) | ((with_reducible apply J21); (· rfl)) | ((with_reducible intro hif); first | (focus (cases hif; done)) | (simp only [JH] at hif; try (exfalso; omega)) | (try (exfalso; omega))) | ((first | ((with_reducible apply J22 cCtG_ok tab_ok); (· rfl)) | ((with_reducible apply J23 fol cCtG_ok tab_ok); (· rfl)) | with_reducible apply J24); (· (simp only [push_cast, ↓JP, Nat.reduceAdd, Nat.reduceEqDiff, Nat.reduceLT, Nat.reduceMul, Nat.reduceLeDiff, reduceCtorEq, reduceIte, ↓JK, JM, JE, JB, cCtG, sAw19, sMd19, sNewG, sCrG, sCrB, rGo, rGoQ, rState, rStateQ, rUsed, rUsedQ, sEqI64, sEqSnd, rBack, sISame, sBegin, runP, engP, macP, prP, clP, nodupN, memN, rB, rvS, eB, clA, clB, clC, fsS, prO, inR, inN, Nat.sub_zero, hk2]; rfl)); (try kernel_rfl); (try exact Vm.b92)) | fail)
    refine WF.loopAt (fun (z : CZ) => Cut (made14 xs) ⟨v.seed, IntKind.wrap .u16 v.process, (IntKind.wrap .u8 v.ports).tmod 17, 1 + IntKind.wrap .u8 v.look, time⟩ (begS value time source (cs.take 12) d) (fuel.tmod 512).toNat z.n z.W ∧ z.i ≤ min ps.length 20 + 1 ∧ (z.i = min ps.length 20 + 1 → z.n = (fuel.tmod 512).toNat)) (fun (z : CZ) => [(1, .sl 5 6 [] 1 0 ps.length (some p3)), (5, .ptr 10 []), (6, .ptr 11 []), (8, .ptr 24 []), (9, .int .i64 0), (46, .nat .i64 k), (7, .nat .i64 0), (10, .int .i64 ((fuel.tmod 512) - (z.n : Int))), (11, .bool false), (12, .nat .i64 z.i)]) (fun (z : CZ) => [.gone, .gone, .ro (.arr xs.length 5 (prS xs)), .gone, .ro (.arr cs.length 1 (i64S cs)), .gone, .ro (.arr ps.length 1 (u8S ps)), .gone, .own 73 (.arr (made14 xs).length 5 (prS (made14 xs))) false, .own 2 (.arr (cs.take 12).length 1 (i64S (cs.take 12))) false, .own 41 (.agg [.sl 8 8 [] 5 0 (made14 xs).length none, .agg [.int .u64 v.seed, .int .i64 (IntKind.wrap .u16 v.process), .int .i64 ((IntKind.wrap .u8 v.ports).tmod 17), .int .i64 (1 + IntKind.wrap .u8 v.look), .int .i64 time], .agg [.agg [.int .i64 time, .int .i64 source, .int .i64 1], .int .i64 0, .int .i64 value], .sl 9 9 [] 1 0 (cs.take 12).length none, .int .i64 d, .int .i64 (fuel.tmod 512)]) true, rB 12 17 18 19 z.n false, eB 13 16 (made14 xs).length, mB z.W.s ⟨v.seed, IntKind.wrap .u16 v.process, (IntKind.wrap .u8 v.ports).tmod 17, 1 + IntKind.wrap .u8 v.look, time⟩ z.W.x 14 15, cB z.W.s, sB z.W.s, prO (made14 xs), clA 20 (made14 xs).length, clB ⟨v.seed, IntKind.wrap .u16 v.process, (IntKind.wrap .u8 v.ports).tmod 17, 1 + IntKind.wrap .u8 v.look, time⟩, clC (begS value time source (cs.take 12) d) 21, prO (made14 xs), cB (begS value time source (cs.take 12) d), cB R.s, sB R.s, .own 45 (.agg [.nat .i64 R.tr.length, .int .i64 R.at_, .sl 22 22 [] 1 0 R.s.cells.length none, .int .i64 R.s.draws, .sl 23 23 [] 3 0 R.s.sends.length none]) true]) (fun (z : CZ) => min ps.length 20 + 2 - z.i) ⟨0, 0, ⟨[], 0, 190, (begS value time source (cs.take 12) d), Ins0⟩⟩ ⟨Cut.start rfl, Nat.zero_le _, fun h => by dsimp only at h; omega⟩ ?_ ?_ rfl ?_ ?_ rfl ?_
    · exact Vm.b88
    · exact Vm.b7
    · exact Vm.b87
    · exact Vm.b87
    rintro ⟨i, n, W⟩ ⟨hC, hi, hz⟩
    dsimp only at hC hi hz ⊢
    have hle := hC.le
    have hlW := hC.len
    have hGW : SG (made14 xs) W.s := by rw [← hC.run]; exact runA_good hPG _ _ _ _ _ hSG
    have hcW := hGW.c1
    have hnW := hGW.n1
    by_cases hl : 0 < (fuel.tmod 512) - (n : Int)
    · by_cases hj : i < min ps.length 20
      · have hpsi := hps i
        obtain ⟨Q, hQ⟩ : ∃ Q, runA (made14 xs) ⟨v.seed, IntKind.wrap .u16 v.process, (IntKind.wrap .u8 v.ports).tmod 17, 1 + IntKind.wrap .u8 v.look, time⟩ (min ((fuel.tmod 512) - (n : Int)) (ps.getD i 0)).toNat W.s W.x [] 0 = Q := ⟨_, rfl⟩
        have hm0 : 0 ≤ min ((fuel.tmod 512) - (n : Int)) (ps.getD i 0) := by omega
        have hm1 : n + (min ((fuel.tmod 512) - (n : Int)) (ps.getD i 0)).toNat ≤ (fuel.tmod 512).toNat := by omega
        have hm2 : min ((fuel.tmod 512) - (n : Int)) (ps.getD i 0) ≤ 4096 := by omega
        have hGQ : SG (made14 xs) Q.s := by rw [← hQ]; exact runA_good hPG _ _ _ _ _ hGW
        by_cases hq : Q.bad = 190
        · have hlQ : Q.tr.length = (min ((fuel.tmod 512) - (n : Int)) (ps.getD i 0)).toNat := by
            have := (runA_fuel (P := (made14 xs)) (v := ⟨v.seed, IntKind.wrap .u16 v.process, (IntKind.wrap .u8 v.ports).tmod 17, 1 + IntKind.wrap .u8 v.look, time⟩) (min ((fuel.tmod 512) - (n : Int)) (ps.getD i 0)).toNat W.s W.x [] 0 (by rw [hQ]; exact hq)).2.1
            rw [hQ] at this; simpa using this
          have hgv : goV Q = .tup [.bool false, .int .i64 0] := by simp [goV, hq]
          have hgw : goW false Q = false := by simp [goW, hq]
          have hde : ∀ β, (SV.int .i64 ((fuel.tmod 512) - (n : Int) - min ((fuel.tmod 512) - (n : Int)) (ps.getD i 0))).den β = (SV.int .i64 ((fuel.tmod 512) - ((n + Q.tr.length : Nat) : Int))).den β := fun β => by rw [show (fuel.tmod 512) - (n : Int) - min ((fuel.tmod 512) - (n : Int)) (ps.getD i 0) = (fuel.tmod 512) - ((n + Q.tr.length : Nat) : Int) by omega]
          repeat' (first | with_reducible (first | apply J1 | apply J3 | apply J4 | apply J5 | apply J6 | apply J7 | apply J8 | apply J9 | apply J10 | apply J11 | apply J12 | apply J13 | apply J14 | apply J15 | apply J16 | apply J17 | apply J18 | apply J19 | apply J20 | refine J2 ?_) | ((with_reducible apply J21); (· rfl)) | ((with_reducible intro hif); first | (focus (cases hif; done)) | (simp only [JH] at hif; try (exfalso; omega)) | (try (exfalso; omega))) | ((first | ((with_reducible apply J22 cCtG_ok tab_ok); (· rfl)) | ((with_reducible apply J23 fol cCtG_ok tab_ok); (· rfl)) | with_reducible apply J24); (· exact Vm.b93); (try kernel_rfl); (try exact Vm.b92)) | fail)
          refine At.nextPick [0, 1, 2, 3, 4, 5, 6, 7, 8, 9, 10, 11, 12, 13, 14, 25, 16, 17, 18, 19, 20, 21, 22, 23, 24] ⟨i + 1, n + Q.tr.length, ⟨W.tr ++ Q.tr, Q.at_, Q.bad, Q.s, Q.x⟩⟩ ?_ rfl rfl rfl ?_ rfl ?_ ?_ ?_ rfl
          · exact Vm.b89
          · exact Vm.b31
          · exact Vm.b87
          · exact Vm.b90
          · exact Vm.b87
        · have hD := hC.done hm1 hQ hq hRA
          have e1 : Q.s = R.s := by rw [hD]
          have e2 : Q.bad = R.bad := by rw [hD]
          have e3 : n + Q.tr.length = R.tr.length := by rw [hD]; simp [hlW]
          have hgv : goV Q = .tup [.bool true, .int .i64 0] := by simp [goV, e2, hb]
          have hgw : goW false Q = false := by simp [goW, e2, hb]
          repeat' (first | with_reducible (first | apply J1 | apply J3 | apply J4 | apply J5 | apply J6 | apply J7 | apply J8 | apply J9 | apply J10 | apply J11 | apply J12 | apply J13 | apply J14 | apply J15 | apply J16 | apply J17 | apply J18 | apply J19 | apply J20 | refine J2 ?_) | ((with_reducible apply J21); (· rfl)) | ((with_reducible intro hif); first | (focus (cases hif; done)) | (simp only [JH] at hif; try (exfalso; omega)) | (try (exfalso; omega))) | ((first | ((with_reducible apply J22 cCtG_ok tab_ok); (· rfl)) | ((with_reducible apply J23 fol cCtG_ok tab_ok); (· rfl)) | with_reducible apply J24); (· exact Vm.b94); (try kernel_rfl); (try exact Vm.b92)) | fail)
          refine At.nextPick [0, 1, 2, 3, 4, 5, 6, 7, 8, 9, 10, 11, 29, 30, 31, 32, 33, 17, 18, 19, 20, 21, 22, 23, 24] (k + 1) ?_ rfl rfl rfl ?_ rfl ?_ ?_ ?_ rfl
          · omega
          · exact Vm.b91
          · exact Vm.b87
          · exact Vm.b51
          · exact Vm.b87
      · skip
        obtain ⟨Q, hQ⟩ : ∃ Q, runA (made14 xs) ⟨v.seed, IntKind.wrap .u16 v.process, (IntKind.wrap .u8 v.ports).tmod 17, 1 + IntKind.wrap .u8 v.look, time⟩ (((fuel.tmod 512) - (n : Int))).toNat W.s W.x [] 0 = Q := ⟨_, rfl⟩
        have hm0 : 0 ≤ ((fuel.tmod 512) - (n : Int)) := by omega
        have hm1 : n + (((fuel.tmod 512) - (n : Int))).toNat ≤ (fuel.tmod 512).toNat := by omega
        have hm2 : ((fuel.tmod 512) - (n : Int)) ≤ 4096 := by omega
        have hGQ : SG (made14 xs) Q.s := by rw [← hQ]; exact runA_good hPG _ _ _ _ _ hGW
        by_cases hq : Q.bad = 190
        · have hlQ : Q.tr.length = (((fuel.tmod 512) - (n : Int))).toNat := by
            have := (runA_fuel (P := (made14 xs)) (v := ⟨v.seed, IntKind.wrap .u16 v.process, (IntKind.wrap .u8 v.ports).tmod 17, 1 + IntKind.wrap .u8 v.look, time⟩) (((fuel.tmod 512) - (n : Int))).toNat W.s W.x [] 0 (by rw [hQ]; exact hq)).2.1
            rw [hQ] at this; simpa using this
          have hgv : goV Q = .tup [.bool false, .int .i64 0] := by simp [goV, hq]
          have hgw : goW false Q = false := by simp [goW, hq]
          have hde : ∀ β, (SV.int .i64 ((fuel.tmod 512) - (n : Int) - ((fuel.tmod 512) - (n : Int)))).den β = (SV.int .i64 ((fuel.tmod 512) - ((n + Q.tr.length : Nat) : Int))).den β := fun β => by rw [show (fuel.tmod 512) - (n : Int) - ((fuel.tmod 512) - (n : Int)) = (fuel.tmod 512) - ((n + Q.tr.length : Nat) : Int) by omega]
          repeat' (first | with_reducible (first | apply J1 | apply J3 | apply J4 | apply J5 | apply J6 | apply J7 | apply J8 | apply J9 | apply J10 | apply J11 | apply J12 | apply J13 | apply J14 | apply J15 | apply J16 | apply J17 | apply J18 | apply J19 | apply J20 | refine J2 ?_) | ((with_reducible apply J21); (· rfl)) | ((with_reducible intro hif); first | (focus (cases hif; done)) | (simp only [JH] at hif; try (exfalso; omega)) | (try (exfalso; omega))) | ((first | ((with_reducible apply J22 cCtG_ok tab_ok); (· rfl)) | ((with_reducible apply J23 fol cCtG_ok tab_ok); (· rfl)) | with_reducible apply J24); (· exact Vm.b95); (try kernel_rfl); (try exact Vm.b92)) | fail)
          refine At.nextPick [0, 1, 2, 3, 4, 5, 6, 7, 8, 9, 10, 11, 12, 13, 14, 25, 16, 17, 18, 19, 20, 21, 22, 23, 24] ⟨i + 1, n + Q.tr.length, ⟨W.tr ++ Q.tr, Q.at_, Q.bad, Q.s, Q.x⟩⟩ ?_ rfl rfl rfl ?_ rfl ?_ ?_ ?_ rfl
          · exact Vm.b89
          · exact Vm.b31
          · exact Vm.b87
          · exact Vm.b90
          · exact Vm.b87
        · have hD := hC.done hm1 hQ hq hRA
          have e1 : Q.s = R.s := by rw [hD]
          have e2 : Q.bad = R.bad := by rw [hD]
          have e3 : n + Q.tr.length = R.tr.length := by rw [hD]; simp [hlW]
          have hgv : goV Q = .tup [.bool true, .int .i64 0] := by simp [goV, e2, hb]
          have hgw : goW false Q = false := by simp [goW, e2, hb]
          repeat' (first | with_reducible (first | apply J1 | apply J3 | apply J4 | apply J5 | apply J6 | apply J7 | apply J8 | apply J9 | apply J10 | apply J11 | apply J12 | apply J13 | apply J14 | apply J15 | apply J16 | apply J17 | apply J18 | apply J19 | apply J20 | refine J2 ?_) | ((with_reducible apply J21); (· rfl)) | ((with_reducible intro hif); first | (focus (cases hif; done)) | (simp only [JH] at hif; try (exfalso; omega)) | (try (exfalso; omega))) | ((first | ((with_reducible apply J22 cCtG_ok tab_ok); (· rfl)) | ((with_reducible apply J23 fol cCtG_ok tab_ok); (· rfl)) | with_reducible apply J24); (· exact Vm.b96); (try kernel_rfl); (try exact Vm.b92)) | fail)
          refine At.nextPick [0, 1, 2, 3, 4, 5, 6, 7, 8, 9, 10, 11, 29, 30, 31, 32, 33, 17, 18, 19, 20, 21, 22, 23, 24] (k + 1) ?_ rfl rfl rfl ?_ rfl ?_ ?_ ?_ rfl
          · omega
          · exact Vm.b91
          · exact Vm.b87
          · exact Vm.b51
          · exact Vm.b87
    · by_cases hi0 : i = 0
      · subst hi0
        by_cases hj : 0 < min ps.length 20
        · have hps0 := hps 0
          obtain ⟨Q, hQ⟩ : ∃ Q, runA (made14 xs) ⟨v.seed, IntKind.wrap .u16 v.process, (IntKind.wrap .u8 v.ports).tmod 17, 1 + IntKind.wrap .u8 v.look, time⟩ (min ((fuel.tmod 512) - (n : Int)) (ps.getD 0 0)).toNat W.s W.x [] 0 = Q := ⟨_, rfl⟩
          have hm0 : 0 ≤ min ((fuel.tmod 512) - (n : Int)) (ps.getD 0 0) := by omega
          have hm1 : n + (min ((fuel.tmod 512) - (n : Int)) (ps.getD 0 0)).toNat ≤ (fuel.tmod 512).toNat := by omega
          have hm2 : min ((fuel.tmod 512) - (n : Int)) (ps.getD 0 0) ≤ 4096 := by omega
          have hGQ : SG (made14 xs) Q.s := by rw [← hQ]; exact runA_good hPG _ _ _ _ _ hGW
          by_cases hq : Q.bad = 190
          · have hlQ : Q.tr.length = (min ((fuel.tmod 512) - (n : Int)) (ps.getD 0 0)).toNat := by
              have := (runA_fuel (P := (made14 xs)) (v := ⟨v.seed, IntKind.wrap .u16 v.process, (IntKind.wrap .u8 v.ports).tmod 17, 1 + IntKind.wrap .u8 v.look, time⟩) (min ((fuel.tmod 512) - (n : Int)) (ps.getD 0 0)).toNat W.s W.x [] 0 (by rw [hQ]; exact hq)).2.1
              rw [hQ] at this; simpa using this
            have hgv : goV Q = .tup [.bool false, .int .i64 0] := by simp [goV, hq]
            have hgw : goW false Q = false := by simp [goW, hq]
            have hde : ∀ β, (SV.int .i64 ((fuel.tmod 512) - (n : Int) - min ((fuel.tmod 512) - (n : Int)) (ps.getD 0 0))).den β = (SV.int .i64 ((fuel.tmod 512) - ((n + Q.tr.length : Nat) : Int))).den β := fun β => by rw [show (fuel.tmod 512) - (n : Int) - min ((fuel.tmod 512) - (n : Int)) (ps.getD 0 0) = (fuel.tmod 512) - ((n + Q.tr.length : Nat) : Int) by omega]
            repeat' (first | with_reducible (first | apply J1 | apply J3 | apply J4 | apply J5 | apply J6 | apply J7 | apply J8 | apply J9 | apply J10 | apply J11 | apply J12 | apply J13 | apply J14 | apply J15 | apply J16 | apply J17 | apply J18 | apply J19 | apply J20 | refine J2 ?_) | ((with_reducible apply J21); (· rfl)) | ((with_reducible intro hif); first | (focus (cases hif; done)) | (simp only [JH] at hif; try (exfalso; omega)) | (try (exfalso; omega))) | ((first | ((with_reducible apply J22 cCtG_ok tab_ok); (· rfl)) | ((with_reducible apply J23 fol cCtG_ok tab_ok); (· rfl)) | with_reducible apply J24); (· exact Vm.b93); (try kernel_rfl); (try exact Vm.b92)) | fail)
            refine At.nextPick [0, 1, 2, 3, 4, 5, 6, 7, 8, 9, 10, 11, 12, 13, 14, 25, 16, 17, 18, 19, 20, 21, 22, 23, 24] ⟨0 + 1, n + Q.tr.length, ⟨W.tr ++ Q.tr, Q.at_, Q.bad, Q.s, Q.x⟩⟩ ?_ rfl rfl rfl ?_ rfl ?_ ?_ ?_ rfl
            · exact Vm.b89
            · exact Vm.b31
            · exact Vm.b87
            · exact Vm.b90
            · exact Vm.b87
          · have hD := hC.done hm1 hQ hq hRA
            have e1 : Q.s = R.s := by rw [hD]
            have e2 : Q.bad = R.bad := by rw [hD]
            have e3 : n + Q.tr.length = R.tr.length := by rw [hD]; simp [hlW]
            have hgv : goV Q = .tup [.bool true, .int .i64 0] := by simp [goV, e2, hb]
            have hgw : goW false Q = false := by simp [goW, e2, hb]
            repeat' (first | with_reducible (first | apply J1 | apply J3 | apply J4 | apply J5 | apply J6 | apply J7 | apply J8 | apply J9 | apply J10 | apply J11 | apply J12 | apply J13 | apply J14 | apply J15 | apply J16 | apply J17 | apply J18 | apply J19 | apply J20 | refine J2 ?_) | ((with_reducible apply J21); (· rfl)) | ((with_reducible intro hif); first | (focus (cases hif; done)) | (simp only [JH] at hif; try (exfalso; omega)) | (try (exfalso; omega))) | ((first | ((with_reducible apply J22 cCtG_ok tab_ok); (· rfl)) | ((with_reducible apply J23 fol cCtG_ok tab_ok); (· rfl)) | with_reducible apply J24); (· exact Vm.b94); (try kernel_rfl); (try exact Vm.b92)) | fail)
            refine At.nextPick [0, 1, 2, 3, 4, 5, 6, 7, 8, 9, 10, 11, 29, 30, 31, 32, 33, 17, 18, 19, 20, 21, 22, 23, 24] (k + 1) ?_ rfl rfl rfl ?_ rfl ?_ ?_ ?_ rfl
            · omega
            · exact Vm.b91
            · exact Vm.b87
            · exact Vm.b51
            · exact Vm.b87
        · skip
          obtain ⟨Q, hQ⟩ : ∃ Q, runA (made14 xs) ⟨v.seed, IntKind.wrap .u16 v.process, (IntKind.wrap .u8 v.ports).tmod 17, 1 + IntKind.wrap .u8 v.look, time⟩ (((fuel.tmod 512) - (n : Int))).toNat W.s W.x [] 0 = Q := ⟨_, rfl⟩
          have hm0 : 0 ≤ ((fuel.tmod 512) - (n : Int)) := by omega
          have hm1 : n + (((fuel.tmod 512) - (n : Int))).toNat ≤ (fuel.tmod 512).toNat := by omega
          have hm2 : ((fuel.tmod 512) - (n : Int)) ≤ 4096 := by omega
          have hGQ : SG (made14 xs) Q.s := by rw [← hQ]; exact runA_good hPG _ _ _ _ _ hGW
          by_cases hq : Q.bad = 190
          · have hlQ : Q.tr.length = (((fuel.tmod 512) - (n : Int))).toNat := by
              have := (runA_fuel (P := (made14 xs)) (v := ⟨v.seed, IntKind.wrap .u16 v.process, (IntKind.wrap .u8 v.ports).tmod 17, 1 + IntKind.wrap .u8 v.look, time⟩) (((fuel.tmod 512) - (n : Int))).toNat W.s W.x [] 0 (by rw [hQ]; exact hq)).2.1
              rw [hQ] at this; simpa using this
            have hgv : goV Q = .tup [.bool false, .int .i64 0] := by simp [goV, hq]
            have hgw : goW false Q = false := by simp [goW, hq]
            have hde : ∀ β, (SV.int .i64 ((fuel.tmod 512) - (n : Int) - ((fuel.tmod 512) - (n : Int)))).den β = (SV.int .i64 ((fuel.tmod 512) - ((n + Q.tr.length : Nat) : Int))).den β := fun β => by rw [show (fuel.tmod 512) - (n : Int) - ((fuel.tmod 512) - (n : Int)) = (fuel.tmod 512) - ((n + Q.tr.length : Nat) : Int) by omega]
            repeat' (first | with_reducible (first | apply J1 | apply J3 | apply J4 | apply J5 | apply J6 | apply J7 | apply J8 | apply J9 | apply J10 | apply J11 | apply J12 | apply J13 | apply J14 | apply J15 | apply J16 | apply J17 | apply J18 | apply J19 | apply J20 | refine J2 ?_) | ((with_reducible apply J21); (· rfl)) | ((with_reducible intro hif); first | (focus (cases hif; done)) | (simp only [JH] at hif; try (exfalso; omega)) | (try (exfalso; omega))) | ((first | ((with_reducible apply J22 cCtG_ok tab_ok); (· rfl)) | ((with_reducible apply J23 fol cCtG_ok tab_ok); (· rfl)) | with_reducible apply J24); (· exact Vm.b95); (try kernel_rfl); (try exact Vm.b92)) | fail)
            refine At.nextPick [0, 1, 2, 3, 4, 5, 6, 7, 8, 9, 10, 11, 12, 13, 14, 25, 16, 17, 18, 19, 20, 21, 22, 23, 24] ⟨0 + 1, n + Q.tr.length, ⟨W.tr ++ Q.tr, Q.at_, Q.bad, Q.s, Q.x⟩⟩ ?_ rfl rfl rfl ?_ rfl ?_ ?_ ?_ rfl
            · exact Vm.b89
            · exact Vm.b31
            · exact Vm.b87
            · exact Vm.b90
            · exact Vm.b87
          · have hD := hC.done hm1 hQ hq hRA
            have e1 : Q.s = R.s := by rw [hD]
            have e2 : Q.bad = R.bad := by rw [hD]
            have e3 : n + Q.tr.length = R.tr.length := by rw [hD]; simp [hlW]
            have hgv : goV Q = .tup [.bool true, .int .i64 0] := by simp [goV, e2, hb]
            have hgw : goW false Q = false := by simp [goW, e2, hb]
            repeat' (first | with_reducible (first | apply J1 | apply J3 | apply J4 | apply J5 | apply J6 | apply J7 | apply J8 | apply J9 | apply J10 | apply J11 | apply J12 | apply J13 | apply J14 | apply J15 | apply J16 | apply J17 | apply J18 | apply J19 | apply J20 | refine J2 ?_) | ((with_reducible apply J21); (· rfl)) | ((with_reducible intro hif); first | (focus (cases hif; done)) | (simp only [JH] at hif; try (exfalso; omega)) | (try (exfalso; omega))) | ((first | ((with_reducible apply J22 cCtG_ok tab_ok); (· rfl)) | ((with_reducible apply J23 fol cCtG_ok tab_ok); (· rfl)) | with_reducible apply J24); (· exact Vm.b96); (try kernel_rfl); (try exact Vm.b92)) | fail)
            refine At.nextPick [0, 1, 2, 3, 4, 5, 6, 7, 8, 9, 10, 11, 29, 30, 31, 32, 33, 17, 18, 19, 20, 21, 22, 23, 24] (k + 1) ?_ rfl rfl rfl ?_ rfl ?_ ?_ ?_ rfl
            · omega
            · exact Vm.b91
            · exact Vm.b87
            · exact Vm.b51
            · exact Vm.b87
      · have hnF : n = (fuel.tmod 512).toNat := by omega
        subst hnF
        have hWR := hC.all hRA
        exfalso
        have := hC.bad
        rw [hWR] at this
        exact hne this
  · obtain rfl : k = 2 := by omega
    repeat' (first | with_reducible (first | apply J1 | apply J3 | apply J4 | apply J5 | apply J6 | apply J7 | apply J8 | apply J9 | apply J10 | apply J11 | apply J12 | apply J13 | apply J14 | apply J15 | apply J16 | apply J17 | apply J18 | apply J19 | apply J20 | refine J2 ?_) | ((with_reducible apply J21); (· rfl)) | ((with_reducible intro hif); first | (focus (cases hif; done)) | (simp only [JH] at hif; try (exfalso; omega)) | (try (exfalso; omega))) | ((first | ((with_reducible apply J22 cCtG_ok tab_ok); (· rfl)) | ((with_reducible apply J23 fol cCtG_ok tab_ok); (· rfl)) | with_reducible apply J24); (· (simp only [push_cast, ↓JP, Nat.reduceAdd, Nat.reduceEqDiff, Nat.reduceLT, Nat.reduceMul, Nat.reduceLeDiff, reduceCtorEq, reduceIte, ↓JK, JM, JE, JB, cCtG, sAw19, sMd19, sNewG, sCrG, sCrB, rGo, rGoQ, rState, rStateQ, rUsed, rUsedQ, sEqI64, sEqSnd, rBack, sISame, sBegin, runP, engP, macP, prP, clP, nodupN, memN, rB, rvS, eB, clA, clB, clC, fsS, prO, inR, inN, Nat.sub_zero]; rfl)); (try kernel_rfl); (try exact Vm.b92)) | fail)
    apply At.endsRet tab_ok (fn := Try.f4) (rs := [.tmp 4]) Anc.refl hro (Nat.le_of_ble_eq_true rfl) rfl
    · exact Vm.b12
    · exact Vm.b6
    · exact Vm.b7
    · rfl
    · exact Vm.b87
    · exact Vm.b9
    · exact fun β => rfl
    · exact Vm.b87
theorem cuts_fuel (xs : List Ins) (a d sn time source value fuel : Int) (rg : Nat → Int) (cs ps : List Int) (v : Evi) (p1 p2 p3 : Nat) (hx : ∀ x ∈ xs, x.ok) (hcap : max xs.length p1 ≤ 9223372036854775807) (hcp : cs.length ≤ p2) (ha : 0 ≤ a ∧ a ≤ 255) (hd : 0 ≤ d ∧ d ≤ 4294967295) (hs : 0 ≤ sn ∧ sn ≤ 255) (ht : 0 ≤ time ∧ time ≤ 4294967295) (hso : 0 ≤ source ∧ source ≤ 255) (hf : 0 ≤ fuel ∧ fuel ≤ 65535) (hps : ∀ q, 0 ≤ ps.getD q 0 ∧ ps.getD q 0 ≤ 255) (hpl : ps.length ≤ p3) (hp3 : p3 ≤ 9223372036854775807) (R : RR) (hR : runO (made14 xs) ⟨v.seed, IntKind.wrap .u16 v.process, (IntKind.wrap .u8 v.ports).tmod 17, 1 + IntKind.wrap .u8 v.look, time⟩ (begS value time source (cs.take 12) d) (fuel.tmod 512) = R) (hb : R.bad = 190) : LitOk Try.prog 4
    [.agg [.sl 1 2 [] 5 0 xs.length (some p1), .agg [.int .u8 a, .arr 8 1 (fun q => .int .i64 (rg q)), .sl 3 4 [] 1 0 cs.length (some p2), .int .u32 d, .int .u8 sn], .agg [.int .u64 v.seed, .int .i64 v.process, .int .i64 v.ports, .int .i64 v.look, .int .i64 v.now], .int .u32 time, .int .u8 source, .int .i64 value, .int .u16 fuel], .sl 5 6 [] 1 0 ps.length (some p3)]
    [.gone, .gone, .ro (.arr xs.length 5 (prS xs)), .gone, .ro (.arr cs.length 1 (i64S cs)), .gone, .ro (.arr ps.length 1 (u8S ps))] (.bool true) [.gone] := by
  have w1 := wrap_u16 v.process
  have w2 := wrap_u8 v.ports
  have w3 := wrap_u8 v.look
  have f0 := Int.tmod_nonneg 512 hf.1
  have f1 := Int.tmod_lt_of_pos fuel (show (0 : Int) < 512 by decide)
  have pt0 := Int.tmod_nonneg 17 w2.1
  have hok := made14_ok xs hx
  have hml := (made14_le xs).2
  have hml0 := (made14_le xs).1
  have hn : (made14 xs).length ≤ 1000000 := by omega
  have hct : (cs.take 12).length ≤ 12 := by rw [List.length_take]; omega
  have hcl : (cs.take 12).length ≤ 1000000 := by omega
  have hO : openE (made14 xs) ⟨v.seed, IntKind.wrap .u16 v.process, (IntKind.wrap .u8 v.ports).tmod 17, 1 + IntKind.wrap .u8 v.look, time⟩ (begS value time source (cs.take 12) d) = 0 := made_open xs w1.1 (by show IntKind.wrap .u16 v.process ≤ 65536; omega) pt0 (by show 1 ≤ 1 + IntKind.wrap .u8 v.look; omega) ht.1 (by show time ≤ 281474976710656; omega) (by omega) hd.1 (by omega)
  have hPG : PG (made14 xs) := ⟨hok, (openE_zero hO).1⟩
  have hVO : VOk ⟨v.seed, IntKind.wrap .u16 v.process, (IntKind.wrap .u8 v.ports).tmod 17, 1 + IntKind.wrap .u8 v.look, time⟩ := VOk.of (openE_zero hO).2.1
  have hSG : SG (made14 xs) (begS value time source (cs.take 12) d) := SG.of (openE_zero hO).2.2 (by simp [begS])
  have hRA : runA (made14 xs) ⟨v.seed, IntKind.wrap .u16 v.process, (IntKind.wrap .u8 v.ports).tmod 17, 1 + IntKind.wrap .u8 v.look, time⟩ (fuel.tmod 512).toNat (begS value time source (cs.take 12) d) Ins0 [] 0 = R := by rw [← hR, runO_of hO f0 (by omega)]
  have hGR : SG (made14 xs) R.s := by rw [← hRA]; exact runA_good hPG _ _ _ _ _ hSG
  have hcR := hGR.c1
  have hnR := hGR.n1
  have hatR := runA_at (P := (made14 xs)) (v := ⟨v.seed, IntKind.wrap .u16 v.process, (IntKind.wrap .u8 v.ports).tmod 17, 1 + IntKind.wrap .u8 v.look, time⟩) (fuel.tmod 512).toNat (begS value time source (cs.take 12) d) Ins0 [] 0 (fun h => by cases h)
  rw [hRA] at hatR
  obtain ⟨hat, hend⟩ := hatR
  have hleR := (runA_le (P := (made14 xs)) (v := ⟨v.seed, IntKind.wrap .u16 v.process, (IntKind.wrap .u8 v.ports).tmod 17, 1 + IntKind.wrap .u8 v.look, time⟩) (fuel.tmod 512).toNat (begS value time source (cs.take 12) d) Ins0 [] 0).2
  rw [hRA] at hleR
  simp only [List.length_nil] at hleR
  rw [hb] at hend
  have hend : R.s.ended = false := hend
  have hb0 : R.bad ≠ 0 := by omega
  refine litOkM (fn := Try.f4) 7 166 0 rfl rfl rfl rfl rfl (by simp only [StableL, Stable, hp, i64S, u8S, prS, insS, sndsS, sndS, stS, evS, macS, mB, cB, sB, eB, prO, rB, rvS, clA, clB, clC, fsS, HB.stable]; simp [HB.born]) rfl fun w0 M E hro => ?_

  repeat' (first | with_reducible (first | apply J1 | apply J3 | apply J4 | apply J5 | apply J6 | apply J7 | apply J8 | apply J9 | apply J10 | apply J11 | apply J12 | apply J13 | apply J14 | apply J15 | apply J16 | apply J17 | apply J18 | apply J19 | apply J20 | refine J2 ?_) | ((with_reducible apply J21); (· rfl)) | ((with_reducible intro hif); first | (focus (cases hif; done)) | (simp only [JH] at hif; try (exfalso; omega)) | (try (exfalso; omega))) | ((first | ((with_reducible apply J22 cCtB_ok tab_ok); (· rfl)) | ((with_reducible apply J23 fol cCtB_ok tab_ok); (· rfl)) | with_reducible apply J24); (· (simp only [push_cast, ↓JP, Nat.reduceAdd, Nat.reduceEqDiff, Nat.reduceLT, Nat.reduceMul, Nat.reduceLeDiff, reduceCtorEq, reduceIte, ↓JK, JM, JE, JB, cCtB, sAw19, sMd19, sNewG, sCrG, sCrB, rGo, rGoQ, rState, rStateQ, rUsed, rUsedQ, sEqI64, sEqSnd, rBack, sISame, sBegin, runP, engP, macP, prP, clP, nodupN, memN, rB, rvS, eB, clA, clB, clC, fsS, prO, inR, inN, Nat.sub_zero, hR, hb]; rfl)); (try kernel_rfl); (try exact Vm.b92)) | fail)
  refine WF.loopAt (fun (k : Nat) => k ≤ 2) (fun (k : Nat) => [(1, .sl 5 6 [] 1 0 ps.length (some p3)), (5, .ptr 10 []), (6, .ptr 11 []), (8, .ptr 22 []), (9, .int .i64 190), (46, .nat .i64 k)]) (fun (k : Nat) => [.gone, .gone, .ro (.arr xs.length 5 (prS xs)), .gone, .ro (.arr cs.length 1 (i64S cs)), .gone, .ro (.arr ps.length 1 (u8S ps)), .gone, .own 73 (.arr (made14 xs).length 5 (prS (made14 xs))) false, .own 2 (.arr (cs.take 12).length 1 (i64S (cs.take 12))) false, .own 41 (.agg [.sl 8 8 [] 5 0 (made14 xs).length none, .agg [.int .u64 v.seed, .int .i64 (IntKind.wrap .u16 v.process), .int .i64 ((IntKind.wrap .u8 v.ports).tmod 17), .int .i64 (1 + IntKind.wrap .u8 v.look), .int .i64 time], .agg [.agg [.int .i64 time, .int .i64 source, .int .i64 1], .int .i64 0, .int .i64 value], .sl 9 9 [] 1 0 (cs.take 12).length none, .int .i64 d, .int .i64 (fuel.tmod 512)]) true, rB 12 17 18 19 0 false, eB 13 16 (made14 xs).length, mB (begS value time source (cs.take 12) d) ⟨v.seed, IntKind.wrap .u16 v.process, (IntKind.wrap .u8 v.ports).tmod 17, 1 + IntKind.wrap .u8 v.look, time⟩ Ins0 14 15, cB (begS value time source (cs.take 12) d), sB (begS value time source (cs.take 12) d), prO (made14 xs), clA 20 (made14 xs).length, clB ⟨v.seed, IntKind.wrap .u16 v.process, (IntKind.wrap .u8 v.ports).tmod 17, 1 + IntKind.wrap .u8 v.look, time⟩, clC (begS value time source (cs.take 12) d) 21, prO (made14 xs), cB (begS value time source (cs.take 12) d), .own 45 (.agg [.nat .i64 R.tr.length, .int .i64 R.at_, .sl 0 0 [] 0 0 0 (some 0), .nat .i64 0, .sl 0 0 [] 0 0 0 (some 0)]) true]) (fun (k : Nat) => 2 - k) 0 (by omega) ?_ ?_ rfl ?_ ?_ rfl ?_
  · exact Vm.b10
  · exact Vm.b7
  · exact Vm.b87
  · exact Vm.b87
  intro k hk
  by_cases hk2 : k < 2
  · skip
    repeat' (first | with_reducible (first | apply J1 | apply J3 | apply J4 | apply J5 | apply J6 | apply J7 | apply J8 | apply J9 | apply J10 | apply J11 | apply J12 | apply J13 | apply J14 | apply J15 | apply J16 | apply J17 | apply J18 | apply J19 | apply J20 | refine J2 ?_) | ((with_reducible apply J21); (· rfl)) | ((with_reducible intro hif); first | (focus (cases hif; done)) | (simp only [JH] at hif; try (exfalso; omega)) | (try (exfalso; omega))) | ((first | ((with_reducible apply J22 cCtB_ok tab_ok); (· rfl)) | ((with_reducible apply J23 fol cCtB_ok tab_ok); (· rfl)) | with_reducible apply J24); (· exact Vm.b97); (try kernel_rfl); (try exact Vm.b92)) | fail)
    refine WF.loopAt (fun (z : CZ) => Cut (made14 xs) ⟨v.seed, IntKind.wrap .u16 v.process, (IntKind.wrap .u8 v.ports).tmod 17, 1 + IntKind.wrap .u8 v.look, time⟩ (begS value time source (cs.take 12) d) (fuel.tmod 512).toNat z.n z.W ∧ z.i ≤ min ps.length 20 + 1 ∧ (z.i = min ps.length 20 + 1 → z.n = (fuel.tmod 512).toNat)) (fun (z : CZ) => [(1, .sl 5 6 [] 1 0 ps.length (some p3)), (5, .ptr 10 []), (6, .ptr 11 []), (8, .ptr 22 []), (9, .int .i64 190), (46, .nat .i64 k), (7, .nat .i64 0), (10, .int .i64 ((fuel.tmod 512) - (z.n : Int))), (11, .bool false), (12, .nat .i64 z.i)]) (fun (z : CZ) => [.gone, .gone, .ro (.arr xs.length 5 (prS xs)), .gone, .ro (.arr cs.length 1 (i64S cs)), .gone, .ro (.arr ps.length 1 (u8S ps)), .gone, .own 73 (.arr (made14 xs).length 5 (prS (made14 xs))) false, .own 2 (.arr (cs.take 12).length 1 (i64S (cs.take 12))) false, .own 41 (.agg [.sl 8 8 [] 5 0 (made14 xs).length none, .agg [.int .u64 v.seed, .int .i64 (IntKind.wrap .u16 v.process), .int .i64 ((IntKind.wrap .u8 v.ports).tmod 17), .int .i64 (1 + IntKind.wrap .u8 v.look), .int .i64 time], .agg [.agg [.int .i64 time, .int .i64 source, .int .i64 1], .int .i64 0, .int .i64 value], .sl 9 9 [] 1 0 (cs.take 12).length none, .int .i64 d, .int .i64 (fuel.tmod 512)]) true, rB 12 17 18 19 z.n false, eB 13 16 (made14 xs).length, mB z.W.s ⟨v.seed, IntKind.wrap .u16 v.process, (IntKind.wrap .u8 v.ports).tmod 17, 1 + IntKind.wrap .u8 v.look, time⟩ z.W.x 14 15, cB z.W.s, sB z.W.s, prO (made14 xs), clA 20 (made14 xs).length, clB ⟨v.seed, IntKind.wrap .u16 v.process, (IntKind.wrap .u8 v.ports).tmod 17, 1 + IntKind.wrap .u8 v.look, time⟩, clC (begS value time source (cs.take 12) d) 21, prO (made14 xs), cB (begS value time source (cs.take 12) d), .own 45 (.agg [.nat .i64 R.tr.length, .int .i64 R.at_, .sl 0 0 [] 0 0 0 (some 0), .nat .i64 0, .sl 0 0 [] 0 0 0 (some 0)]) true]) (fun (z : CZ) => min ps.length 20 + 2 - z.i) ⟨0, 0, ⟨[], 0, 190, (begS value time source (cs.take 12) d), Ins0⟩⟩ ⟨Cut.start rfl, Nat.zero_le _, fun h => by dsimp only at h; omega⟩ ?_ ?_ rfl ?_ ?_ rfl ?_
    · exact Vm.b88
    · exact Vm.b7
    · exact Vm.b87
    · exact Vm.b87
    rintro ⟨i, n, W⟩ ⟨hC, hi, hz⟩
    dsimp only at hC hi hz ⊢
    have hle := hC.le
    have hlW := hC.len
    have hGW : SG (made14 xs) W.s := by rw [← hC.run]; exact runA_good hPG _ _ _ _ _ hSG
    have hcW := hGW.c1
    have hnW := hGW.n1
    by_cases hl : 0 < (fuel.tmod 512) - (n : Int)
    · by_cases hj : i < min ps.length 20
      · have hpsi := hps i
        obtain ⟨Q, hQ⟩ : ∃ Q, runA (made14 xs) ⟨v.seed, IntKind.wrap .u16 v.process, (IntKind.wrap .u8 v.ports).tmod 17, 1 + IntKind.wrap .u8 v.look, time⟩ (min ((fuel.tmod 512) - (n : Int)) (ps.getD i 0)).toNat W.s W.x [] 0 = Q := ⟨_, rfl⟩
        have hm0 : 0 ≤ min ((fuel.tmod 512) - (n : Int)) (ps.getD i 0) := by omega
        have hm1 : n + (min ((fuel.tmod 512) - (n : Int)) (ps.getD i 0)).toNat ≤ (fuel.tmod 512).toNat := by omega
        have hm2 : min ((fuel.tmod 512) - (n : Int)) (ps.getD i 0) ≤ 4096 := by omega
        have hGQ : SG (made14 xs) Q.s := by rw [← hQ]; exact runA_good hPG _ _ _ _ _ hGW
        by_cases hq : Q.bad = 190
        · have hlQ : Q.tr.length = (min ((fuel.tmod 512) - (n : Int)) (ps.getD i 0)).toNat := by
            have := (runA_fuel (P := (made14 xs)) (v := ⟨v.seed, IntKind.wrap .u16 v.process, (IntKind.wrap .u8 v.ports).tmod 17, 1 + IntKind.wrap .u8 v.look, time⟩) (min ((fuel.tmod 512) - (n : Int)) (ps.getD i 0)).toNat W.s W.x [] 0 (by rw [hQ]; exact hq)).2.1
            rw [hQ] at this; simpa using this
          have hgv : goV Q = .tup [.bool false, .int .i64 0] := by simp [goV, hq]
          have hgw : goW false Q = false := by simp [goW, hq]
          have hde : ∀ β, (SV.int .i64 ((fuel.tmod 512) - (n : Int) - min ((fuel.tmod 512) - (n : Int)) (ps.getD i 0))).den β = (SV.int .i64 ((fuel.tmod 512) - ((n + Q.tr.length : Nat) : Int))).den β := fun β => by rw [show (fuel.tmod 512) - (n : Int) - min ((fuel.tmod 512) - (n : Int)) (ps.getD i 0) = (fuel.tmod 512) - ((n + Q.tr.length : Nat) : Int) by omega]
          repeat' (first | with_reducible (first | apply J1 | apply J3 | apply J4 | apply J5 | apply J6 | apply J7 | apply J8 | apply J9 | apply J10 | apply J11 | apply J12 | apply J13 | apply J14 | apply J15 | apply J16 | apply J17 | apply J18 | apply J19 | apply J20 | refine J2 ?_) | ((with_reducible apply J21); (· rfl)) | ((with_reducible intro hif); first | (focus (cases hif; done)) | (simp only [JH] at hif; try (exfalso; omega)) | (try (exfalso; omega))) | ((first | ((with_reducible apply J22 cCtB_ok tab_ok); (· rfl)) | ((with_reducible apply J23 fol cCtB_ok tab_ok); (· rfl)) | with_reducible apply J24); (· exact Vm.b98); (try kernel_rfl); (try exact Vm.b92)) | fail)
          refine At.nextPick [0, 1, 2, 3, 4, 5, 6, 7, 8, 9, 10, 11, 12, 13, 14, 23, 16, 17, 18, 19, 20, 21, 22] ⟨i + 1, n + Q.tr.length, ⟨W.tr ++ Q.tr, Q.at_, Q.bad, Q.s, Q.x⟩⟩ ?_ rfl rfl rfl ?_ rfl ?_ ?_ ?_ rfl
          · exact Vm.b89
          · exact Vm.b31
          · exact Vm.b87
          · exact Vm.b90
          · exact Vm.b87
        · have hD := hC.done hm1 hQ hq hRA
          exfalso; rw [hD] at hb; exact hq hb
      · skip
        obtain ⟨Q, hQ⟩ : ∃ Q, runA (made14 xs) ⟨v.seed, IntKind.wrap .u16 v.process, (IntKind.wrap .u8 v.ports).tmod 17, 1 + IntKind.wrap .u8 v.look, time⟩ (((fuel.tmod 512) - (n : Int))).toNat W.s W.x [] 0 = Q := ⟨_, rfl⟩
        have hm0 : 0 ≤ ((fuel.tmod 512) - (n : Int)) := by omega
        have hm1 : n + (((fuel.tmod 512) - (n : Int))).toNat ≤ (fuel.tmod 512).toNat := by omega
        have hm2 : ((fuel.tmod 512) - (n : Int)) ≤ 4096 := by omega
        have hGQ : SG (made14 xs) Q.s := by rw [← hQ]; exact runA_good hPG _ _ _ _ _ hGW
        by_cases hq : Q.bad = 190
        · have hlQ : Q.tr.length = (((fuel.tmod 512) - (n : Int))).toNat := by
            have := (runA_fuel (P := (made14 xs)) (v := ⟨v.seed, IntKind.wrap .u16 v.process, (IntKind.wrap .u8 v.ports).tmod 17, 1 + IntKind.wrap .u8 v.look, time⟩) (((fuel.tmod 512) - (n : Int))).toNat W.s W.x [] 0 (by rw [hQ]; exact hq)).2.1
            rw [hQ] at this; simpa using this
          have hgv : goV Q = .tup [.bool false, .int .i64 0] := by simp [goV, hq]
          have hgw : goW false Q = false := by simp [goW, hq]
          have hde : ∀ β, (SV.int .i64 ((fuel.tmod 512) - (n : Int) - ((fuel.tmod 512) - (n : Int)))).den β = (SV.int .i64 ((fuel.tmod 512) - ((n + Q.tr.length : Nat) : Int))).den β := fun β => by rw [show (fuel.tmod 512) - (n : Int) - ((fuel.tmod 512) - (n : Int)) = (fuel.tmod 512) - ((n + Q.tr.length : Nat) : Int) by omega]
          repeat' (first | with_reducible (first | apply J1 | apply J3 | apply J4 | apply J5 | apply J6 | apply J7 | apply J8 | apply J9 | apply J10 | apply J11 | apply J12 | apply J13 | apply J14 | apply J15 | apply J16 | apply J17 | apply J18 | apply J19 | apply J20 | refine J2 ?_) | ((with_reducible apply J21); (· rfl)) | ((with_reducible intro hif); first | (focus (cases hif; done)) | (simp only [JH] at hif; try (exfalso; omega)) | (try (exfalso; omega))) | ((first | ((with_reducible apply J22 cCtB_ok tab_ok); (· rfl)) | ((with_reducible apply J23 fol cCtB_ok tab_ok); (· rfl)) | with_reducible apply J24); (· exact Vm.b99); (try kernel_rfl); (try exact Vm.b92)) | fail)
          refine At.nextPick [0, 1, 2, 3, 4, 5, 6, 7, 8, 9, 10, 11, 12, 13, 14, 23, 16, 17, 18, 19, 20, 21, 22] ⟨i + 1, n + Q.tr.length, ⟨W.tr ++ Q.tr, Q.at_, Q.bad, Q.s, Q.x⟩⟩ ?_ rfl rfl rfl ?_ rfl ?_ ?_ ?_ rfl
          · exact Vm.b89
          · exact Vm.b31
          · exact Vm.b87
          · exact Vm.b90
          · exact Vm.b87
        · have hD := hC.done hm1 hQ hq hRA
          exfalso; rw [hD] at hb; exact hq hb
    · by_cases hi0 : i = 0
      · subst hi0
        by_cases hj : 0 < min ps.length 20
        · have hps0 := hps 0
          obtain ⟨Q, hQ⟩ : ∃ Q, runA (made14 xs) ⟨v.seed, IntKind.wrap .u16 v.process, (IntKind.wrap .u8 v.ports).tmod 17, 1 + IntKind.wrap .u8 v.look, time⟩ (min ((fuel.tmod 512) - (n : Int)) (ps.getD 0 0)).toNat W.s W.x [] 0 = Q := ⟨_, rfl⟩
          have hm0 : 0 ≤ min ((fuel.tmod 512) - (n : Int)) (ps.getD 0 0) := by omega
          have hm1 : n + (min ((fuel.tmod 512) - (n : Int)) (ps.getD 0 0)).toNat ≤ (fuel.tmod 512).toNat := by omega
          have hm2 : min ((fuel.tmod 512) - (n : Int)) (ps.getD 0 0) ≤ 4096 := by omega
          have hGQ : SG (made14 xs) Q.s := by rw [← hQ]; exact runA_good hPG _ _ _ _ _ hGW
          by_cases hq : Q.bad = 190
          · have hlQ : Q.tr.length = (min ((fuel.tmod 512) - (n : Int)) (ps.getD 0 0)).toNat := by
              have := (runA_fuel (P := (made14 xs)) (v := ⟨v.seed, IntKind.wrap .u16 v.process, (IntKind.wrap .u8 v.ports).tmod 17, 1 + IntKind.wrap .u8 v.look, time⟩) (min ((fuel.tmod 512) - (n : Int)) (ps.getD 0 0)).toNat W.s W.x [] 0 (by rw [hQ]; exact hq)).2.1
              rw [hQ] at this; simpa using this
            have hgv : goV Q = .tup [.bool false, .int .i64 0] := by simp [goV, hq]
            have hgw : goW false Q = false := by simp [goW, hq]
            have hde : ∀ β, (SV.int .i64 ((fuel.tmod 512) - (n : Int) - min ((fuel.tmod 512) - (n : Int)) (ps.getD 0 0))).den β = (SV.int .i64 ((fuel.tmod 512) - ((n + Q.tr.length : Nat) : Int))).den β := fun β => by rw [show (fuel.tmod 512) - (n : Int) - min ((fuel.tmod 512) - (n : Int)) (ps.getD 0 0) = (fuel.tmod 512) - ((n + Q.tr.length : Nat) : Int) by omega]
            repeat' (first | with_reducible (first | apply J1 | apply J3 | apply J4 | apply J5 | apply J6 | apply J7 | apply J8 | apply J9 | apply J10 | apply J11 | apply J12 | apply J13 | apply J14 | apply J15 | apply J16 | apply J17 | apply J18 | apply J19 | apply J20 | refine J2 ?_) | ((with_reducible apply J21); (· rfl)) | ((with_reducible intro hif); first | (focus (cases hif; done)) | (simp only [JH] at hif; try (exfalso; omega)) | (try (exfalso; omega))) | ((first | ((with_reducible apply J22 cCtB_ok tab_ok); (· rfl)) | ((with_reducible apply J23 fol cCtB_ok tab_ok); (· rfl)) | with_reducible apply J24); (· exact Vm.b98); (try kernel_rfl); (try exact Vm.b92)) | fail)
            refine At.nextPick [0, 1, 2, 3, 4, 5, 6, 7, 8, 9, 10, 11, 12, 13, 14, 23, 16, 17, 18, 19, 20, 21, 22] ⟨0 + 1, n + Q.tr.length, ⟨W.tr ++ Q.tr, Q.at_, Q.bad, Q.s, Q.x⟩⟩ ?_ rfl rfl rfl ?_ rfl ?_ ?_ ?_ rfl
            · exact Vm.b89
            · exact Vm.b31
            · exact Vm.b87
            · exact Vm.b90
            · exact Vm.b87
          · have hD := hC.done hm1 hQ hq hRA
            exfalso; rw [hD] at hb; exact hq hb
        · skip
          obtain ⟨Q, hQ⟩ : ∃ Q, runA (made14 xs) ⟨v.seed, IntKind.wrap .u16 v.process, (IntKind.wrap .u8 v.ports).tmod 17, 1 + IntKind.wrap .u8 v.look, time⟩ (((fuel.tmod 512) - (n : Int))).toNat W.s W.x [] 0 = Q := ⟨_, rfl⟩
          have hm0 : 0 ≤ ((fuel.tmod 512) - (n : Int)) := by omega
          have hm1 : n + (((fuel.tmod 512) - (n : Int))).toNat ≤ (fuel.tmod 512).toNat := by omega
          have hm2 : ((fuel.tmod 512) - (n : Int)) ≤ 4096 := by omega
          have hGQ : SG (made14 xs) Q.s := by rw [← hQ]; exact runA_good hPG _ _ _ _ _ hGW
          by_cases hq : Q.bad = 190
          · have hlQ : Q.tr.length = (((fuel.tmod 512) - (n : Int))).toNat := by
              have := (runA_fuel (P := (made14 xs)) (v := ⟨v.seed, IntKind.wrap .u16 v.process, (IntKind.wrap .u8 v.ports).tmod 17, 1 + IntKind.wrap .u8 v.look, time⟩) (((fuel.tmod 512) - (n : Int))).toNat W.s W.x [] 0 (by rw [hQ]; exact hq)).2.1
              rw [hQ] at this; simpa using this
            have hgv : goV Q = .tup [.bool false, .int .i64 0] := by simp [goV, hq]
            have hgw : goW false Q = false := by simp [goW, hq]
            have hde : ∀ β, (SV.int .i64 ((fuel.tmod 512) - (n : Int) - ((fuel.tmod 512) - (n : Int)))).den β = (SV.int .i64 ((fuel.tmod 512) - ((n + Q.tr.length : Nat) : Int))).den β := fun β => by rw [show (fuel.tmod 512) - (n : Int) - ((fuel.tmod 512) - (n : Int)) = (fuel.tmod 512) - ((n + Q.tr.length : Nat) : Int) by omega]
            repeat' (first | with_reducible (first | apply J1 | apply J3 | apply J4 | apply J5 | apply J6 | apply J7 | apply J8 | apply J9 | apply J10 | apply J11 | apply J12 | apply J13 | apply J14 | apply J15 | apply J16 | apply J17 | apply J18 | apply J19 | apply J20 | refine J2 ?_) | ((with_reducible apply J21); (· rfl)) | ((with_reducible intro hif); first | (focus (cases hif; done)) | (simp only [JH] at hif; try (exfalso; omega)) | (try (exfalso; omega))) | ((first | ((with_reducible apply J22 cCtB_ok tab_ok); (· rfl)) | ((with_reducible apply J23 fol cCtB_ok tab_ok); (· rfl)) | with_reducible apply J24); (· exact Vm.b99); (try kernel_rfl); (try exact Vm.b92)) | fail)
            refine At.nextPick [0, 1, 2, 3, 4, 5, 6, 7, 8, 9, 10, 11, 12, 13, 14, 23, 16, 17, 18, 19, 20, 21, 22] ⟨0 + 1, n + Q.tr.length, ⟨W.tr ++ Q.tr, Q.at_, Q.bad, Q.s, Q.x⟩⟩ ?_ rfl rfl rfl ?_ rfl ?_ ?_ ?_ rfl
            · exact Vm.b89
            · exact Vm.b31
            · exact Vm.b87
            · exact Vm.b90
            · exact Vm.b87
          · have hD := hC.done hm1 hQ hq hRA
            exfalso; rw [hD] at hb; exact hq hb
      · have hnF : n = (fuel.tmod 512).toNat := by omega
        subst hnF
        have hWR := hC.all hRA
        subst hWR
        repeat' (first | with_reducible (first | apply J1 | apply J3 | apply J4 | apply J5 | apply J6 | apply J7 | apply J8 | apply J9 | apply J10 | apply J11 | apply J12 | apply J13 | apply J14 | apply J15 | apply J16 | apply J17 | apply J18 | apply J19 | apply J20 | refine J2 ?_) | ((with_reducible apply J21); (· rfl)) | ((with_reducible intro hif); first | (focus (cases hif; done)) | (simp only [JH] at hif; try (exfalso; omega)) | (try (exfalso; omega))) | ((first | ((with_reducible apply J22 cCtB_ok tab_ok); (· rfl)) | ((with_reducible apply J23 fol cCtB_ok tab_ok); (· rfl)) | with_reducible apply J24); (· (simp only [push_cast, ↓JP, Nat.reduceAdd, Nat.reduceEqDiff, Nat.reduceLT, Nat.reduceMul, Nat.reduceLeDiff, reduceCtorEq, reduceIte, ↓JK, JM, JE, JB, cCtB, sAw19, sMd19, sNewG, sCrG, sCrB, rGo, rGoQ, rState, rStateQ, rUsed, rUsedQ, sEqI64, sEqSnd, rBack, sISame, sBegin, runP, engP, macP, prP, clP, nodupN, memN, rB, rvS, eB, clA, clB, clC, fsS, prO, inR, inN, Nat.sub_zero, hl, hi0, hlW, hat, hend, eq_self, eqL_self, hb, hb0]; rfl)); (try kernel_rfl); (try exact Vm.b92)) | fail)
        refine At.nextPick [0, 1, 2, 3, 4, 5, 6, 7, 8, 9, 10, 11, 26, 27, 28, 29, 30, 17, 18, 19, 20, 21, 22] (k + 1) ?_ rfl rfl rfl ?_ rfl ?_ ?_ ?_ rfl
        · omega
        · exact Vm.b91
        · exact Vm.b87
        · exact Vm.b51
        · exact Vm.b87
  · obtain rfl : k = 2 := by omega
    repeat' (first | with_reducible (first | apply J1 | apply J3 | apply J4 | apply J5 | apply J6 | apply J7 | apply J8 | apply J9 | apply J10 | apply J11 | apply J12 | apply J13 | apply J14 | apply J15 | apply J16 | apply J17 | apply J18 | apply J19 | apply J20 | refine J2 ?_) | ((with_reducible apply J21); (· rfl)) | ((with_reducible intro hif); first | (focus (cases hif; done)) | (simp only [JH] at hif; try (exfalso; omega)) | (try (exfalso; omega))) | ((first | ((with_reducible apply J22 cCtB_ok tab_ok); (· rfl)) | ((with_reducible apply J23 fol cCtB_ok tab_ok); (· rfl)) | with_reducible apply J24); (· exact Vm.b100); (try kernel_rfl); (try exact Vm.b92)) | fail)
    apply At.endsRet tab_ok (fn := Try.f4) (rs := [.tmp 4]) Anc.refl hro (Nat.le_of_ble_eq_true rfl) rfl
    · exact Vm.b12
    · exact Vm.b6
    · exact Vm.b7
    · rfl
    · exact Vm.b87
    · exact Vm.b9
    · exact fun β => rfl
    · exact Vm.b87
theorem cuts_bad (xs : List Ins) (a d sn time source value fuel : Int) (rg : Nat → Int) (cs ps : List Int) (v : Evi) (p1 p2 p3 : Nat) (hx : ∀ x ∈ xs, x.ok) (hcap : max xs.length p1 ≤ 9223372036854775807) (hcp : cs.length ≤ p2) (ha : 0 ≤ a ∧ a ≤ 255) (hd : 0 ≤ d ∧ d ≤ 4294967295) (hs : 0 ≤ sn ∧ sn ≤ 255) (ht : 0 ≤ time ∧ time ≤ 4294967295) (hso : 0 ≤ source ∧ source ≤ 255) (hf : 0 ≤ fuel ∧ fuel ≤ 65535) (hps : ∀ q, 0 ≤ ps.getD q 0 ∧ ps.getD q 0 ≤ 255) (hpl : ps.length ≤ p3) (hp3 : p3 ≤ 9223372036854775807) (R : RR) (hR : runO (made14 xs) ⟨v.seed, IntKind.wrap .u16 v.process, (IntKind.wrap .u8 v.ports).tmod 17, 1 + IntKind.wrap .u8 v.look, time⟩ (begS value time source (cs.take 12) d) (fuel.tmod 512) = R) (hb : R.bad ≠ 0) (hb2 : R.bad ≠ 190) : LitOk Try.prog 4
    [.agg [.sl 1 2 [] 5 0 xs.length (some p1), .agg [.int .u8 a, .arr 8 1 (fun q => .int .i64 (rg q)), .sl 3 4 [] 1 0 cs.length (some p2), .int .u32 d, .int .u8 sn], .agg [.int .u64 v.seed, .int .i64 v.process, .int .i64 v.ports, .int .i64 v.look, .int .i64 v.now], .int .u32 time, .int .u8 source, .int .i64 value, .int .u16 fuel], .sl 5 6 [] 1 0 ps.length (some p3)]
    [.gone, .gone, .ro (.arr xs.length 5 (prS xs)), .gone, .ro (.arr cs.length 1 (i64S cs)), .gone, .ro (.arr ps.length 1 (u8S ps))] (.bool true) [.gone] := by
  have w1 := wrap_u16 v.process
  have w2 := wrap_u8 v.ports
  have w3 := wrap_u8 v.look
  have f0 := Int.tmod_nonneg 512 hf.1
  have f1 := Int.tmod_lt_of_pos fuel (show (0 : Int) < 512 by decide)
  have pt0 := Int.tmod_nonneg 17 w2.1
  have hok := made14_ok xs hx
  have hml := (made14_le xs).2
  have hml0 := (made14_le xs).1
  have hn : (made14 xs).length ≤ 1000000 := by omega
  have hct : (cs.take 12).length ≤ 12 := by rw [List.length_take]; omega
  have hcl : (cs.take 12).length ≤ 1000000 := by omega
  have hO : openE (made14 xs) ⟨v.seed, IntKind.wrap .u16 v.process, (IntKind.wrap .u8 v.ports).tmod 17, 1 + IntKind.wrap .u8 v.look, time⟩ (begS value time source (cs.take 12) d) = 0 := made_open xs w1.1 (by show IntKind.wrap .u16 v.process ≤ 65536; omega) pt0 (by show 1 ≤ 1 + IntKind.wrap .u8 v.look; omega) ht.1 (by show time ≤ 281474976710656; omega) (by omega) hd.1 (by omega)
  have hPG : PG (made14 xs) := ⟨hok, (openE_zero hO).1⟩
  have hVO : VOk ⟨v.seed, IntKind.wrap .u16 v.process, (IntKind.wrap .u8 v.ports).tmod 17, 1 + IntKind.wrap .u8 v.look, time⟩ := VOk.of (openE_zero hO).2.1
  have hSG : SG (made14 xs) (begS value time source (cs.take 12) d) := SG.of (openE_zero hO).2.2 (by simp [begS])
  have hRA : runA (made14 xs) ⟨v.seed, IntKind.wrap .u16 v.process, (IntKind.wrap .u8 v.ports).tmod 17, 1 + IntKind.wrap .u8 v.look, time⟩ (fuel.tmod 512).toNat (begS value time source (cs.take 12) d) Ins0 [] 0 = R := by rw [← hR, runO_of hO f0 (by omega)]
  have hGR : SG (made14 xs) R.s := by rw [← hRA]; exact runA_good hPG _ _ _ _ _ hSG
  have hcR := hGR.c1
  have hnR := hGR.n1
  have hatR := runA_at (P := (made14 xs)) (v := ⟨v.seed, IntKind.wrap .u16 v.process, (IntKind.wrap .u8 v.ports).tmod 17, 1 + IntKind.wrap .u8 v.look, time⟩) (fuel.tmod 512).toNat (begS value time source (cs.take 12) d) Ins0 [] 0 (fun h => by cases h)
  rw [hRA] at hatR
  obtain ⟨hat, hend⟩ := hatR
  have hleR := (runA_le (P := (made14 xs)) (v := ⟨v.seed, IntKind.wrap .u16 v.process, (IntKind.wrap .u8 v.ports).tmod 17, 1 + IntKind.wrap .u8 v.look, time⟩) (fuel.tmod 512).toNat (begS value time source (cs.take 12) d) Ins0 [] 0).2
  rw [hRA] at hleR
  simp only [List.length_nil] at hleR
  have hend : R.s.ended = false := by rw [hend]; exact decide_eq_false hb
  have hb0 : R.bad ≠ 0 := hb
  have hne : R.bad ≠ 190 := hb2
  refine litOkM (fn := Try.f4) 7 166 0 rfl rfl rfl rfl rfl (by simp only [StableL, Stable, hp, i64S, u8S, prS, insS, sndsS, sndS, stS, evS, macS, mB, cB, sB, eB, prO, rB, rvS, clA, clB, clC, fsS, HB.stable]; simp [HB.born]) rfl fun w0 M E hro => ?_

  repeat' (first | with_reducible (first | apply J1 | apply J3 | apply J4 | apply J5 | apply J6 | apply J7 | apply J8 | apply J9 | apply J10 | apply J11 | apply J12 | apply J13 | apply J14 | apply J15 | apply J16 | apply J17 | apply J18 | apply J19 | apply J20 | refine J2 ?_) | ((with_reducible apply J21); (· rfl)) | ((with_reducible intro hif); first | (focus (cases hif; done)) | (simp only [JH] at hif; try (exfalso; omega)) | (try (exfalso; omega))) | ((first | ((with_reducible apply J22 cCtB_ok tab_ok); (· rfl)) | ((with_reducible apply J23 fol cCtB_ok tab_ok); (· rfl)) | with_reducible apply J24); (· (simp only [push_cast, ↓JP, Nat.reduceAdd, Nat.reduceEqDiff, Nat.reduceLT, Nat.reduceMul, Nat.reduceLeDiff, reduceCtorEq, reduceIte, ↓JK, JM, JE, JB, cCtB, sAw19, sMd19, sNewG, sCrG, sCrB, rGo, rGoQ, rState, rStateQ, rUsed, rUsedQ, sEqI64, sEqSnd, rBack, sISame, sBegin, runP, engP, macP, prP, clP, nodupN, memN, rB, rvS, eB, clA, clB, clC, fsS, prO, inR, inN, Nat.sub_zero, hR, hb0]; rfl)); (try kernel_rfl); (try exact Vm.b92)) | fail)
  refine WF.loopAt (fun (k : Nat) => k ≤ 2) (fun (k : Nat) => [(1, .sl 5 6 [] 1 0 ps.length (some p3)), (5, .ptr 10 []), (6, .ptr 11 []), (8, .ptr 22 []), (9, .int .i64 R.bad), (46, .nat .i64 k)]) (fun (k : Nat) => [.gone, .gone, .ro (.arr xs.length 5 (prS xs)), .gone, .ro (.arr cs.length 1 (i64S cs)), .gone, .ro (.arr ps.length 1 (u8S ps)), .gone, .own 73 (.arr (made14 xs).length 5 (prS (made14 xs))) false, .own 2 (.arr (cs.take 12).length 1 (i64S (cs.take 12))) false, .own 41 (.agg [.sl 8 8 [] 5 0 (made14 xs).length none, .agg [.int .u64 v.seed, .int .i64 (IntKind.wrap .u16 v.process), .int .i64 ((IntKind.wrap .u8 v.ports).tmod 17), .int .i64 (1 + IntKind.wrap .u8 v.look), .int .i64 time], .agg [.agg [.int .i64 time, .int .i64 source, .int .i64 1], .int .i64 0, .int .i64 value], .sl 9 9 [] 1 0 (cs.take 12).length none, .int .i64 d, .int .i64 (fuel.tmod 512)]) true, rB 12 17 18 19 0 false, eB 13 16 (made14 xs).length, mB (begS value time source (cs.take 12) d) ⟨v.seed, IntKind.wrap .u16 v.process, (IntKind.wrap .u8 v.ports).tmod 17, 1 + IntKind.wrap .u8 v.look, time⟩ Ins0 14 15, cB (begS value time source (cs.take 12) d), sB (begS value time source (cs.take 12) d), prO (made14 xs), clA 20 (made14 xs).length, clB ⟨v.seed, IntKind.wrap .u16 v.process, (IntKind.wrap .u8 v.ports).tmod 17, 1 + IntKind.wrap .u8 v.look, time⟩, clC (begS value time source (cs.take 12) d) 21, prO (made14 xs), cB (begS value time source (cs.take 12) d), .own 45 (.agg [.nat .i64 R.tr.length, .int .i64 R.at_, .sl 0 0 [] 0 0 0 (some 0), .nat .i64 0, .sl 0 0 [] 0 0 0 (some 0)]) true]) (fun (k : Nat) => 2 - k) 0 (by omega) ?_ ?_ rfl ?_ ?_ rfl ?_
  · exact Vm.b10
  · exact Vm.b7
  · exact Vm.b87
  · exact Vm.b87
  intro k hk
  by_cases hk2 : k < 2
  · skip
    repeat' (first | with_reducible (first | apply J1 | apply J3 | apply J4 | apply J5 | apply J6 | apply J7 | apply J8 | apply J9 | apply J10 | apply J11 | apply J12 | apply J13 | apply J14 | apply J15 | apply J16 | apply J17 | apply J18 | apply J19 | apply J20 | refine J2 ?_) | ((with_reducible apply J21); (· rfl)) | ((with_reducible intro hif); first | (focus (cases hif; done)) | (simp only [JH] at hif; try (exfalso; omega)) | (try (exfalso; omega))) | ((first | ((with_reducible apply J22 cCtB_ok tab_ok); (· rfl)) | ((with_reducible apply J23 fol cCtB_ok tab_ok); (· rfl)) | with_reducible apply J24); (· exact Vm.b97); (try kernel_rfl); (try exact Vm.b92)) | fail)
    refine WF.loopAt (fun (z : CZ) => Cut (made14 xs) ⟨v.seed, IntKind.wrap .u16 v.process, (IntKind.wrap .u8 v.ports).tmod 17, 1 + IntKind.wrap .u8 v.look, time⟩ (begS value time source (cs.take 12) d) (fuel.tmod 512).toNat z.n z.W ∧ z.i ≤ min ps.length 20 + 1 ∧ (z.i = min ps.length 20 + 1 → z.n = (fuel.tmod 512).toNat)) (fun (z : CZ) => [(1, .sl 5 6 [] 1 0 ps.length (some p3)), (5, .ptr 10 []), (6, .ptr 11 []), (8, .ptr 22 []), (9, .int .i64 R.bad), (46, .nat .i64 k), (7, .nat .i64 0), (10, .int .i64 ((fuel.tmod 512) - (z.n : Int))), (11, .bool false), (12, .nat .i64 z.i)]) (fun (z : CZ) => [.gone, .gone, .ro (.arr xs.length 5 (prS xs)), .gone, .ro (.arr cs.length 1 (i64S cs)), .gone, .ro (.arr ps.length 1 (u8S ps)), .gone, .own 73 (.arr (made14 xs).length 5 (prS (made14 xs))) false, .own 2 (.arr (cs.take 12).length 1 (i64S (cs.take 12))) false, .own 41 (.agg [.sl 8 8 [] 5 0 (made14 xs).length none, .agg [.int .u64 v.seed, .int .i64 (IntKind.wrap .u16 v.process), .int .i64 ((IntKind.wrap .u8 v.ports).tmod 17), .int .i64 (1 + IntKind.wrap .u8 v.look), .int .i64 time], .agg [.agg [.int .i64 time, .int .i64 source, .int .i64 1], .int .i64 0, .int .i64 value], .sl 9 9 [] 1 0 (cs.take 12).length none, .int .i64 d, .int .i64 (fuel.tmod 512)]) true, rB 12 17 18 19 z.n false, eB 13 16 (made14 xs).length, mB z.W.s ⟨v.seed, IntKind.wrap .u16 v.process, (IntKind.wrap .u8 v.ports).tmod 17, 1 + IntKind.wrap .u8 v.look, time⟩ z.W.x 14 15, cB z.W.s, sB z.W.s, prO (made14 xs), clA 20 (made14 xs).length, clB ⟨v.seed, IntKind.wrap .u16 v.process, (IntKind.wrap .u8 v.ports).tmod 17, 1 + IntKind.wrap .u8 v.look, time⟩, clC (begS value time source (cs.take 12) d) 21, prO (made14 xs), cB (begS value time source (cs.take 12) d), .own 45 (.agg [.nat .i64 R.tr.length, .int .i64 R.at_, .sl 0 0 [] 0 0 0 (some 0), .nat .i64 0, .sl 0 0 [] 0 0 0 (some 0)]) true]) (fun (z : CZ) => min ps.length 20 + 2 - z.i) ⟨0, 0, ⟨[], 0, 190, (begS value time source (cs.take 12) d), Ins0⟩⟩ ⟨Cut.start rfl, Nat.zero_le _, fun h => by dsimp only at h; omega⟩ ?_ ?_ rfl ?_ ?_ rfl ?_
    · exact Vm.b88
    · exact Vm.b7
    · exact Vm.b87
    · exact Vm.b87
    rintro ⟨i, n, W⟩ ⟨hC, hi, hz⟩
    dsimp only at hC hi hz ⊢
    have hle := hC.le
    have hlW := hC.len
    have hGW : SG (made14 xs) W.s := by rw [← hC.run]; exact runA_good hPG _ _ _ _ _ hSG
    have hcW := hGW.c1
    have hnW := hGW.n1
    by_cases hl : 0 < (fuel.tmod 512) - (n : Int)
    · by_cases hj : i < min ps.length 20
      · have hpsi := hps i
        obtain ⟨Q, hQ⟩ : ∃ Q, runA (made14 xs) ⟨v.seed, IntKind.wrap .u16 v.process, (IntKind.wrap .u8 v.ports).tmod 17, 1 + IntKind.wrap .u8 v.look, time⟩ (min ((fuel.tmod 512) - (n : Int)) (ps.getD i 0)).toNat W.s W.x [] 0 = Q := ⟨_, rfl⟩
        have hm0 : 0 ≤ min ((fuel.tmod 512) - (n : Int)) (ps.getD i 0) := by omega
        have hm1 : n + (min ((fuel.tmod 512) - (n : Int)) (ps.getD i 0)).toNat ≤ (fuel.tmod 512).toNat := by omega
        have hm2 : min ((fuel.tmod 512) - (n : Int)) (ps.getD i 0) ≤ 4096 := by omega
        have hGQ : SG (made14 xs) Q.s := by rw [← hQ]; exact runA_good hPG _ _ _ _ _ hGW
        by_cases hq : Q.bad = 190
        · have hlQ : Q.tr.length = (min ((fuel.tmod 512) - (n : Int)) (ps.getD i 0)).toNat := by
            have := (runA_fuel (P := (made14 xs)) (v := ⟨v.seed, IntKind.wrap .u16 v.process, (IntKind.wrap .u8 v.ports).tmod 17, 1 + IntKind.wrap .u8 v.look, time⟩) (min ((fuel.tmod 512) - (n : Int)) (ps.getD i 0)).toNat W.s W.x [] 0 (by rw [hQ]; exact hq)).2.1
            rw [hQ] at this; simpa using this
          have hgv : goV Q = .tup [.bool false, .int .i64 0] := by simp [goV, hq]
          have hgw : goW false Q = false := by simp [goW, hq]
          have hde : ∀ β, (SV.int .i64 ((fuel.tmod 512) - (n : Int) - min ((fuel.tmod 512) - (n : Int)) (ps.getD i 0))).den β = (SV.int .i64 ((fuel.tmod 512) - ((n + Q.tr.length : Nat) : Int))).den β := fun β => by rw [show (fuel.tmod 512) - (n : Int) - min ((fuel.tmod 512) - (n : Int)) (ps.getD i 0) = (fuel.tmod 512) - ((n + Q.tr.length : Nat) : Int) by omega]
          repeat' (first | with_reducible (first | apply J1 | apply J3 | apply J4 | apply J5 | apply J6 | apply J7 | apply J8 | apply J9 | apply J10 | apply J11 | apply J12 | apply J13 | apply J14 | apply J15 | apply J16 | apply J17 | apply J18 | apply J19 | apply J20 | refine J2 ?_) | ((with_reducible apply J21); (· rfl)) | ((with_reducible intro hif); first | (focus (cases hif; done)) | (simp only [JH] at hif; try (exfalso; omega)) | (try (exfalso; omega))) | ((first | ((with_reducible apply J22 cCtB_ok tab_ok); (· rfl)) | ((with_reducible apply J23 fol cCtB_ok tab_ok); (· rfl)) | with_reducible apply J24); (· exact Vm.b98); (try kernel_rfl); (try exact Vm.b92)) | fail)
          refine At.nextPick [0, 1, 2, 3, 4, 5, 6, 7, 8, 9, 10, 11, 12, 13, 14, 23, 16, 17, 18, 19, 20, 21, 22] ⟨i + 1, n + Q.tr.length, ⟨W.tr ++ Q.tr, Q.at_, Q.bad, Q.s, Q.x⟩⟩ ?_ rfl rfl rfl ?_ rfl ?_ ?_ ?_ rfl
          · exact Vm.b89
          · exact Vm.b31
          · exact Vm.b87
          · exact Vm.b90
          · exact Vm.b87
        · have hD := hC.done hm1 hQ hq hRA
          have e1 : Q.s = R.s := by rw [hD]
          have e2 : Q.bad = R.bad := by rw [hD]
          have e3 : n + Q.tr.length = R.tr.length := by rw [hD]; simp [hlW]
          have hgv : goV Q = .tup [.bool false, .int .i64 R.bad] := by simp [goV, e2, hb0, hne]
          have hgw : goW false Q = true := by simp [goW, e2, hb0, hne]
          repeat' (first | with_reducible (first | apply J1 | apply J3 | apply J4 | apply J5 | apply J6 | apply J7 | apply J8 | apply J9 | apply J10 | apply J11 | apply J12 | apply J13 | apply J14 | apply J15 | apply J16 | apply J17 | apply J18 | apply J19 | apply J20 | refine J2 ?_) | ((with_reducible apply J21); (· rfl)) | ((with_reducible intro hif); first | (focus (cases hif; done)) | (simp only [JH] at hif; try (exfalso; omega)) | (try (exfalso; omega))) | ((first | ((with_reducible apply J22 cCtB_ok tab_ok); (· rfl)) | ((with_reducible apply J23 fol cCtB_ok tab_ok); (· rfl)) | with_reducible apply J24); (· exact Vm.b101); (try kernel_rfl); (try exact Vm.b92)) | fail)
          refine At.nextPick [0, 1, 2, 3, 4, 5, 6, 7, 8, 9, 10, 11, 27, 28, 29, 30, 31, 17, 18, 19, 20, 21, 22] (k + 1) ?_ rfl rfl rfl ?_ rfl ?_ ?_ ?_ rfl
          · omega
          · exact Vm.b91
          · exact Vm.b87
          · exact Vm.b51
          · exact Vm.b87
      · skip
        obtain ⟨Q, hQ⟩ : ∃ Q, runA (made14 xs) ⟨v.seed, IntKind.wrap .u16 v.process, (IntKind.wrap .u8 v.ports).tmod 17, 1 + IntKind.wrap .u8 v.look, time⟩ (((fuel.tmod 512) - (n : Int))).toNat W.s W.x [] 0 = Q := ⟨_, rfl⟩
        have hm0 : 0 ≤ ((fuel.tmod 512) - (n : Int)) := by omega
        have hm1 : n + (((fuel.tmod 512) - (n : Int))).toNat ≤ (fuel.tmod 512).toNat := by omega
        have hm2 : ((fuel.tmod 512) - (n : Int)) ≤ 4096 := by omega
        have hGQ : SG (made14 xs) Q.s := by rw [← hQ]; exact runA_good hPG _ _ _ _ _ hGW
        by_cases hq : Q.bad = 190
        · have hlQ : Q.tr.length = (((fuel.tmod 512) - (n : Int))).toNat := by
            have := (runA_fuel (P := (made14 xs)) (v := ⟨v.seed, IntKind.wrap .u16 v.process, (IntKind.wrap .u8 v.ports).tmod 17, 1 + IntKind.wrap .u8 v.look, time⟩) (((fuel.tmod 512) - (n : Int))).toNat W.s W.x [] 0 (by rw [hQ]; exact hq)).2.1
            rw [hQ] at this; simpa using this
          have hgv : goV Q = .tup [.bool false, .int .i64 0] := by simp [goV, hq]
          have hgw : goW false Q = false := by simp [goW, hq]
          have hde : ∀ β, (SV.int .i64 ((fuel.tmod 512) - (n : Int) - ((fuel.tmod 512) - (n : Int)))).den β = (SV.int .i64 ((fuel.tmod 512) - ((n + Q.tr.length : Nat) : Int))).den β := fun β => by rw [show (fuel.tmod 512) - (n : Int) - ((fuel.tmod 512) - (n : Int)) = (fuel.tmod 512) - ((n + Q.tr.length : Nat) : Int) by omega]
          repeat' (first | with_reducible (first | apply J1 | apply J3 | apply J4 | apply J5 | apply J6 | apply J7 | apply J8 | apply J9 | apply J10 | apply J11 | apply J12 | apply J13 | apply J14 | apply J15 | apply J16 | apply J17 | apply J18 | apply J19 | apply J20 | refine J2 ?_) | ((with_reducible apply J21); (· rfl)) | ((with_reducible intro hif); first | (focus (cases hif; done)) | (simp only [JH] at hif; try (exfalso; omega)) | (try (exfalso; omega))) | ((first | ((with_reducible apply J22 cCtB_ok tab_ok); (· rfl)) | ((with_reducible apply J23 fol cCtB_ok tab_ok); (· rfl)) | with_reducible apply J24); (· exact Vm.b99); (try kernel_rfl); (try exact Vm.b92)) | fail)
          refine At.nextPick [0, 1, 2, 3, 4, 5, 6, 7, 8, 9, 10, 11, 12, 13, 14, 23, 16, 17, 18, 19, 20, 21, 22] ⟨i + 1, n + Q.tr.length, ⟨W.tr ++ Q.tr, Q.at_, Q.bad, Q.s, Q.x⟩⟩ ?_ rfl rfl rfl ?_ rfl ?_ ?_ ?_ rfl
          · exact Vm.b89
          · exact Vm.b31
          · exact Vm.b87
          · exact Vm.b90
          · exact Vm.b87
        · have hD := hC.done hm1 hQ hq hRA
          have e1 : Q.s = R.s := by rw [hD]
          have e2 : Q.bad = R.bad := by rw [hD]
          have e3 : n + Q.tr.length = R.tr.length := by rw [hD]; simp [hlW]
          have hgv : goV Q = .tup [.bool false, .int .i64 R.bad] := by simp [goV, e2, hb0, hne]
          have hgw : goW false Q = true := by simp [goW, e2, hb0, hne]
          repeat' (first | with_reducible (first | apply J1 | apply J3 | apply J4 | apply J5 | apply J6 | apply J7 | apply J8 | apply J9 | apply J10 | apply J11 | apply J12 | apply J13 | apply J14 | apply J15 | apply J16 | apply J17 | apply J18 | apply J19 | apply J20 | refine J2 ?_) | ((with_reducible apply J21); (· rfl)) | ((with_reducible intro hif); first | (focus (cases hif; done)) | (simp only [JH] at hif; try (exfalso; omega)) | (try (exfalso; omega))) | ((first | ((with_reducible apply J22 cCtB_ok tab_ok); (· rfl)) | ((with_reducible apply J23 fol cCtB_ok tab_ok); (· rfl)) | with_reducible apply J24); (· exact Vm.b102); (try kernel_rfl); (try exact Vm.b92)) | fail)
          refine At.nextPick [0, 1, 2, 3, 4, 5, 6, 7, 8, 9, 10, 11, 27, 28, 29, 30, 31, 17, 18, 19, 20, 21, 22] (k + 1) ?_ rfl rfl rfl ?_ rfl ?_ ?_ ?_ rfl
          · omega
          · exact Vm.b91
          · exact Vm.b87
          · exact Vm.b51
          · exact Vm.b87
    · by_cases hi0 : i = 0
      · subst hi0
        by_cases hj : 0 < min ps.length 20
        · have hps0 := hps 0
          obtain ⟨Q, hQ⟩ : ∃ Q, runA (made14 xs) ⟨v.seed, IntKind.wrap .u16 v.process, (IntKind.wrap .u8 v.ports).tmod 17, 1 + IntKind.wrap .u8 v.look, time⟩ (min ((fuel.tmod 512) - (n : Int)) (ps.getD 0 0)).toNat W.s W.x [] 0 = Q := ⟨_, rfl⟩
          have hm0 : 0 ≤ min ((fuel.tmod 512) - (n : Int)) (ps.getD 0 0) := by omega
          have hm1 : n + (min ((fuel.tmod 512) - (n : Int)) (ps.getD 0 0)).toNat ≤ (fuel.tmod 512).toNat := by omega
          have hm2 : min ((fuel.tmod 512) - (n : Int)) (ps.getD 0 0) ≤ 4096 := by omega
          have hGQ : SG (made14 xs) Q.s := by rw [← hQ]; exact runA_good hPG _ _ _ _ _ hGW
          by_cases hq : Q.bad = 190
          · have hlQ : Q.tr.length = (min ((fuel.tmod 512) - (n : Int)) (ps.getD 0 0)).toNat := by
              have := (runA_fuel (P := (made14 xs)) (v := ⟨v.seed, IntKind.wrap .u16 v.process, (IntKind.wrap .u8 v.ports).tmod 17, 1 + IntKind.wrap .u8 v.look, time⟩) (min ((fuel.tmod 512) - (n : Int)) (ps.getD 0 0)).toNat W.s W.x [] 0 (by rw [hQ]; exact hq)).2.1
              rw [hQ] at this; simpa using this
            have hgv : goV Q = .tup [.bool false, .int .i64 0] := by simp [goV, hq]
            have hgw : goW false Q = false := by simp [goW, hq]
            have hde : ∀ β, (SV.int .i64 ((fuel.tmod 512) - (n : Int) - min ((fuel.tmod 512) - (n : Int)) (ps.getD 0 0))).den β = (SV.int .i64 ((fuel.tmod 512) - ((n + Q.tr.length : Nat) : Int))).den β := fun β => by rw [show (fuel.tmod 512) - (n : Int) - min ((fuel.tmod 512) - (n : Int)) (ps.getD 0 0) = (fuel.tmod 512) - ((n + Q.tr.length : Nat) : Int) by omega]
            repeat' (first | with_reducible (first | apply J1 | apply J3 | apply J4 | apply J5 | apply J6 | apply J7 | apply J8 | apply J9 | apply J10 | apply J11 | apply J12 | apply J13 | apply J14 | apply J15 | apply J16 | apply J17 | apply J18 | apply J19 | apply J20 | refine J2 ?_) | ((with_reducible apply J21); (· rfl)) | ((with_reducible intro hif); first | (focus (cases hif; done)) | (simp only [JH] at hif; try (exfalso; omega)) | (try (exfalso; omega))) | ((first | ((with_reducible apply J22 cCtB_ok tab_ok); (· rfl)) | ((with_reducible apply J23 fol cCtB_ok tab_ok); (· rfl)) | with_reducible apply J24); (· exact Vm.b98); (try kernel_rfl); (try exact Vm.b92)) | fail)
            refine At.nextPick [0, 1, 2, 3, 4, 5, 6, 7, 8, 9, 10, 11, 12, 13, 14, 23, 16, 17, 18, 19, 20, 21, 22] ⟨0 + 1, n + Q.tr.length, ⟨W.tr ++ Q.tr, Q.at_, Q.bad, Q.s, Q.x⟩⟩ ?_ rfl rfl rfl ?_ rfl ?_ ?_ ?_ rfl
            · exact Vm.b89
            · exact Vm.b31
            · exact Vm.b87
            · exact Vm.b90
            · exact Vm.b87
          · have hD := hC.done hm1 hQ hq hRA
            have e1 : Q.s = R.s := by rw [hD]
            have e2 : Q.bad = R.bad := by rw [hD]
            have e3 : n + Q.tr.length = R.tr.length := by rw [hD]; simp [hlW]
            have hgv : goV Q = .tup [.bool false, .int .i64 R.bad] := by simp [goV, e2, hb0, hne]
            have hgw : goW false Q = true := by simp [goW, e2, hb0, hne]
            repeat' (first | with_reducible (first | apply J1 | apply J3 | apply J4 | apply J5 | apply J6 | apply J7 | apply J8 | apply J9 | apply J10 | apply J11 | apply J12 | apply J13 | apply J14 | apply J15 | apply J16 | apply J17 | apply J18 | apply J19 | apply J20 | refine J2 ?_) | ((with_reducible apply J21); (· rfl)) | ((with_reducible intro hif); first | (focus (cases hif; done)) | (simp only [JH] at hif; try (exfalso; omega)) | (try (exfalso; omega))) | ((first | ((with_reducible apply J22 cCtB_ok tab_ok); (· rfl)) | ((with_reducible apply J23 fol cCtB_ok tab_ok); (· rfl)) | with_reducible apply J24); (· exact Vm.b101); (try kernel_rfl); (try exact Vm.b92)) | fail)
            refine At.nextPick [0, 1, 2, 3, 4, 5, 6, 7, 8, 9, 10, 11, 27, 28, 29, 30, 31, 17, 18, 19, 20, 21, 22] (k + 1) ?_ rfl rfl rfl ?_ rfl ?_ ?_ ?_ rfl
            · omega
            · exact Vm.b91
            · exact Vm.b87
            · exact Vm.b51
            · exact Vm.b87
        · skip
          obtain ⟨Q, hQ⟩ : ∃ Q, runA (made14 xs) ⟨v.seed, IntKind.wrap .u16 v.process, (IntKind.wrap .u8 v.ports).tmod 17, 1 + IntKind.wrap .u8 v.look, time⟩ (((fuel.tmod 512) - (n : Int))).toNat W.s W.x [] 0 = Q := ⟨_, rfl⟩
          have hm0 : 0 ≤ ((fuel.tmod 512) - (n : Int)) := by omega
          have hm1 : n + (((fuel.tmod 512) - (n : Int))).toNat ≤ (fuel.tmod 512).toNat := by omega
          have hm2 : ((fuel.tmod 512) - (n : Int)) ≤ 4096 := by omega
          have hGQ : SG (made14 xs) Q.s := by rw [← hQ]; exact runA_good hPG _ _ _ _ _ hGW
          by_cases hq : Q.bad = 190
          · have hlQ : Q.tr.length = (((fuel.tmod 512) - (n : Int))).toNat := by
              have := (runA_fuel (P := (made14 xs)) (v := ⟨v.seed, IntKind.wrap .u16 v.process, (IntKind.wrap .u8 v.ports).tmod 17, 1 + IntKind.wrap .u8 v.look, time⟩) (((fuel.tmod 512) - (n : Int))).toNat W.s W.x [] 0 (by rw [hQ]; exact hq)).2.1
              rw [hQ] at this; simpa using this
            have hgv : goV Q = .tup [.bool false, .int .i64 0] := by simp [goV, hq]
            have hgw : goW false Q = false := by simp [goW, hq]
            have hde : ∀ β, (SV.int .i64 ((fuel.tmod 512) - (n : Int) - ((fuel.tmod 512) - (n : Int)))).den β = (SV.int .i64 ((fuel.tmod 512) - ((n + Q.tr.length : Nat) : Int))).den β := fun β => by rw [show (fuel.tmod 512) - (n : Int) - ((fuel.tmod 512) - (n : Int)) = (fuel.tmod 512) - ((n + Q.tr.length : Nat) : Int) by omega]
            repeat' (first | with_reducible (first | apply J1 | apply J3 | apply J4 | apply J5 | apply J6 | apply J7 | apply J8 | apply J9 | apply J10 | apply J11 | apply J12 | apply J13 | apply J14 | apply J15 | apply J16 | apply J17 | apply J18 | apply J19 | apply J20 | refine J2 ?_) | ((with_reducible apply J21); (· rfl)) | ((with_reducible intro hif); first | (focus (cases hif; done)) | (simp only [JH] at hif; try (exfalso; omega)) | (try (exfalso; omega))) | ((first | ((with_reducible apply J22 cCtB_ok tab_ok); (· rfl)) | ((with_reducible apply J23 fol cCtB_ok tab_ok); (· rfl)) | with_reducible apply J24); (· exact Vm.b99); (try kernel_rfl); (try exact Vm.b92)) | fail)
            refine At.nextPick [0, 1, 2, 3, 4, 5, 6, 7, 8, 9, 10, 11, 12, 13, 14, 23, 16, 17, 18, 19, 20, 21, 22] ⟨0 + 1, n + Q.tr.length, ⟨W.tr ++ Q.tr, Q.at_, Q.bad, Q.s, Q.x⟩⟩ ?_ rfl rfl rfl ?_ rfl ?_ ?_ ?_ rfl
            · exact Vm.b89
            · exact Vm.b31
            · exact Vm.b87
            · exact Vm.b90
            · exact Vm.b87
          · have hD := hC.done hm1 hQ hq hRA
            have e1 : Q.s = R.s := by rw [hD]
            have e2 : Q.bad = R.bad := by rw [hD]
            have e3 : n + Q.tr.length = R.tr.length := by rw [hD]; simp [hlW]
            have hgv : goV Q = .tup [.bool false, .int .i64 R.bad] := by simp [goV, e2, hb0, hne]
            have hgw : goW false Q = true := by simp [goW, e2, hb0, hne]
            repeat' (first | with_reducible (first | apply J1 | apply J3 | apply J4 | apply J5 | apply J6 | apply J7 | apply J8 | apply J9 | apply J10 | apply J11 | apply J12 | apply J13 | apply J14 | apply J15 | apply J16 | apply J17 | apply J18 | apply J19 | apply J20 | refine J2 ?_) | ((with_reducible apply J21); (· rfl)) | ((with_reducible intro hif); first | (focus (cases hif; done)) | (simp only [JH] at hif; try (exfalso; omega)) | (try (exfalso; omega))) | ((first | ((with_reducible apply J22 cCtB_ok tab_ok); (· rfl)) | ((with_reducible apply J23 fol cCtB_ok tab_ok); (· rfl)) | with_reducible apply J24); (· exact Vm.b102); (try kernel_rfl); (try exact Vm.b92)) | fail)
            refine At.nextPick [0, 1, 2, 3, 4, 5, 6, 7, 8, 9, 10, 11, 27, 28, 29, 30, 31, 17, 18, 19, 20, 21, 22] (k + 1) ?_ rfl rfl rfl ?_ rfl ?_ ?_ ?_ rfl
            · omega
            · exact Vm.b91
            · exact Vm.b87
            · exact Vm.b51
            · exact Vm.b87
      · have hnF : n = (fuel.tmod 512).toNat := by omega
        subst hnF
        have hWR := hC.all hRA
        exfalso
        have := hC.bad
        rw [hWR] at this
        exact hne this
  · obtain rfl : k = 2 := by omega
    repeat' (first | with_reducible (first | apply J1 | apply J3 | apply J4 | apply J5 | apply J6 | apply J7 | apply J8 | apply J9 | apply J10 | apply J11 | apply J12 | apply J13 | apply J14 | apply J15 | apply J16 | apply J17 | apply J18 | apply J19 | apply J20 | refine J2 ?_) | ((with_reducible apply J21); (· rfl)) | ((with_reducible intro hif); first | (focus (cases hif; done)) | (simp only [JH] at hif; try (exfalso; omega)) | (try (exfalso; omega))) | ((first | ((with_reducible apply J22 cCtB_ok tab_ok); (· rfl)) | ((with_reducible apply J23 fol cCtB_ok tab_ok); (· rfl)) | with_reducible apply J24); (· exact Vm.b100); (try kernel_rfl); (try exact Vm.b92)) | fail)
    apply At.endsRet tab_ok (fn := Try.f4) (rs := [.tmp 4]) Anc.refl hro (Nat.le_of_ble_eq_true rfl) rfl
    · exact Vm.b12
    · exact Vm.b6
    · exact Vm.b7
    · rfl
    · exact Vm.b87
    · exact Vm.b9
    · exact fun β => rfl
    · exact Vm.b87
theorem cuts_lit (xs : List Ins) (a d sn time source value fuel : Int) (rg : Nat → Int) (cs ps : List Int) (v : Evi) (p1 p2 p3 : Nat) (hx : ∀ x ∈ xs, x.ok) (hcap : max xs.length p1 ≤ 9223372036854775807) (hcp : cs.length ≤ p2) (ha : 0 ≤ a ∧ a ≤ 255) (hd : 0 ≤ d ∧ d ≤ 4294967295) (hs : 0 ≤ sn ∧ sn ≤ 255) (ht : 0 ≤ time ∧ time ≤ 4294967295) (hso : 0 ≤ source ∧ source ≤ 255) (hf : 0 ≤ fuel ∧ fuel ≤ 65535) (hps : ∀ q, 0 ≤ ps.getD q 0 ∧ ps.getD q 0 ≤ 255) (hpl : ps.length ≤ p3) (hp3 : p3 ≤ 9223372036854775807) : LitOk Try.prog 4
    [.agg [.sl 1 2 [] 5 0 xs.length (some p1), .agg [.int .u8 a, .arr 8 1 (fun q => .int .i64 (rg q)), .sl 3 4 [] 1 0 cs.length (some p2), .int .u32 d, .int .u8 sn], .agg [.int .u64 v.seed, .int .i64 v.process, .int .i64 v.ports, .int .i64 v.look, .int .i64 v.now], .int .u32 time, .int .u8 source, .int .i64 value, .int .u16 fuel], .sl 5 6 [] 1 0 ps.length (some p3)]
    [.gone, .gone, .ro (.arr xs.length 5 (prS xs)), .gone, .ro (.arr cs.length 1 (i64S cs)), .gone, .ro (.arr ps.length 1 (u8S ps))] (.bool true) [.gone] := by
  by_cases h0 : (runO (made14 xs) ⟨v.seed, IntKind.wrap .u16 v.process, (IntKind.wrap .u8 v.ports).tmod 17, 1 + IntKind.wrap .u8 v.look, time⟩ (begS value time source (cs.take 12) d) (fuel.tmod 512)).bad = 0
  · exact cuts_good xs a d sn time source value fuel rg cs ps v p1 p2 p3 hx hcap hcp ha hd hs ht hso hf hps hpl hp3 _ rfl h0
  · by_cases h1 : (runO (made14 xs) ⟨v.seed, IntKind.wrap .u16 v.process, (IntKind.wrap .u8 v.ports).tmod 17, 1 + IntKind.wrap .u8 v.look, time⟩ (begS value time source (cs.take 12) d) (fuel.tmod 512)).bad = 190
    · exact cuts_fuel xs a d sn time source value fuel rg cs ps v p1 p2 p3 hx hcap hcp ha hd hs ht hso hf hps hpl hp3 _ rfl h1
    · exact cuts_bad xs a d sn time source value fuel rg cs ps v p1 p2 p3 hx hcap hcp ha hd hs ht hso hf hps hpl hp3 _ rfl h0 h1
end Go.Proofs.Ytjliakjbdcplcaa.Vm
end

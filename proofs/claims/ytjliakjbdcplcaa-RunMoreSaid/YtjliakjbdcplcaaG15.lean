import Derived.Test.YtjliakjbdcplcaaG14
section
/- RunMore, walked. (printed by gen_lm1.py) -/
namespace Go.Proofs.Ytjliakjbdcplcaa.Vm
open Go.RowKit
attribute [local push_cast] runR opG gtmp gval gus opX tmpsOf tm tmO tmP restr look look2 tab tys zs ets eqB eqBL allB numOf ieq Int.cast_ofNat_Int Int.ofNat_zero beq_true beq_false frameOf ev evL ofV opV loadV noW pushF wrsL setH allBorn allGone HB.born HB.isGone HB.val SV.plain dstOk hp nav fitsT SV.size sizeL SV.isAgg TK.size TK.agg bin binE binN binI arN arI cmpN cmpI keq kn narrow callV storeV setp fillV buildV buildSliceV makeV sliceV appendV copyV List.isEmpty_nil srcV evO asN ite_t ite_f ite_bool ite_int ite_nat maxV v_beq v_ble v_blt cond_true cond_false List.getElem?_cons_zero List.getElem?_cons_succ List.getD_cons_zero List.getD_cons_succ List.getD_nil List.length_cons List.length_nil List.take_succ_cons List.take_zero List.set_cons_zero List.set_cons_succ List.cons_append List.nil_append List.append_assoc List.replicate_succ List.replicate_zero Nat.zero_add Nat.add_zero decide_true decide_false Bool.true_and Bool.and_true Bool.false_and Bool.and_false Bool.true_or Bool.or_true Bool.false_or Bool.or_false beq_self_eq_true Bool.or_self Nat.lt_irrefl Nat.not_lt_zero Nat.le_refl Option.getD_some Option.getD_none BEq.rfl Bool.not_true Bool.not_false Bool.cond_true_left Bool.cond_false_right prS sndsS i64S nav_ins nav_ins0 nav_ins1 nav_ins2 nav_ins3 nav_ins4 nav_snd nav_snd0 nav_snd1 nav_snd2 isIns_insS insOf_insS isSnd_sndS sndOf_sndS isI_int isI_nat iOf
set_option linter.unusedVariables false
set_option linter.unusedSimpArgs false
set_option maxRecDepth 100000
set_option maxHeartbeats 4000000
theorem sameE_self (u a : Int) (c : List Int) (d : Int) (s : List Snd) : sameE u a c d s u a c d s = true := by
  simp [sameE, eqL]
/-- the first run fails, and the others do not -/
def sCrM (F : Int) : Spec := fun args h m => match args with
  | [_, .int .i64 f] => bif decide (f = F) then sCrB args h m else sCrG args h m
  | _ => none
theorem sCrM_ok (F : Int) : CallOk Try.prog 14 (sCrM F) := by
  refine ⟨named_spec (by kernel_rfl), fun args h m c v rd wr hs hm hc w0 M β h' w R hrd hwr hst => ?_⟩
  unfold sCrM at hs
  split at hs
  · rename_i x f
    cases q : decide (f = F)
    · rw [q] at hs
      exact sCrG_ok.2 _ h m c v rd wr hs hm hc w0 M β h' w R hrd hwr hst
    · rw [q] at hs
      exact sCrB_ok.2 _ h m c v rd wr hs hm hc w0 M β h' w R hrd hwr hst
  · cases hs
def cMoG : FuncId → Option Spec := look2 [(12, sAw19), (13, sMd19), (14, sCrG), (15, sSame19)]
theorem cMoG_ok : ∀ f S, cMoG f = some S → CallOk Try.prog f S := allOk_spec ⟨sAw19_ok, sMd19_ok, sCrG_ok, sSame19_ok, trivial⟩
def cMoB : FuncId → Option Spec := look2 [(12, sAw19), (13, sMd19), (14, sCrB), (15, sSame19)]
theorem cMoB_ok : ∀ f S, cMoB f = some S → CallOk Try.prog f S := allOk_spec ⟨sAw19_ok, sMd19_ok, sCrB_ok, sSame19_ok, trivial⟩
def cMoM (F : Int) : FuncId → Option Spec := look2 [(12, sAw19), (13, sMd19), (14, sCrM F), (15, sSame19)]
theorem cMoM_ok (F : Int) : ∀ f S, cMoM F f = some S → CallOk Try.prog f S := allOk_spec ⟨sAw19_ok, sMd19_ok, sCrM_ok F, sSame19_ok, trivial⟩
theorem more_lit (xs : List Ins) (a d sn time source value fuel more : Int) (rg : Nat → Int) (cs : List Int) (v : Evi) (p1 p2 : Nat) (hx : ∀ x ∈ xs, x.ok) (hcap : max xs.length p1 ≤ 9223372036854775807) (hcp : cs.length ≤ p2) (ha : 0 ≤ a ∧ a ≤ 255) (hd : 0 ≤ d ∧ d ≤ 4294967295) (hs : 0 ≤ sn ∧ sn ≤ 255) (ht : 0 ≤ time ∧ time ≤ 4294967295) (hso : 0 ≤ source ∧ source ≤ 255) (hf : 0 ≤ fuel ∧ fuel ≤ 65535) (hmo : 0 ≤ more ∧ more ≤ 65535) : LitOk Try.prog 3
    [.agg [.sl 1 2 [] 5 0 xs.length (some p1), .agg [.int .u8 a, .arr 8 1 (fun q => .int .i64 (rg q)), .sl 3 4 [] 1 0 cs.length (some p2), .int .u32 d, .int .u8 sn], .agg [.int .u64 v.seed, .int .i64 v.process, .int .i64 v.ports, .int .i64 v.look, .int .i64 v.now], .int .u32 time, .int .u8 source, .int .i64 value, .int .u16 fuel], .int .u16 more]
    [.gone, .gone, .ro (.arr xs.length 5 (prS xs)), .gone, .ro (.arr cs.length 1 (i64S cs))] (.bool true) [.gone] := by
  have w1 := wrap_u16 v.process
  have w2 := wrap_u8 v.ports
  have w3 := wrap_u8 v.look
  have f0 := Int.tmod_nonneg 512 hf.1
  have f1 := Int.tmod_lt_of_pos fuel (show (0 : Int) < 512 by decide)
  have m0 := Int.tmod_nonneg 301 hmo.1
  have m1 := Int.tmod_lt_of_pos more (show (0 : Int) < 301 by decide)
  have pt0 := Int.tmod_nonneg 17 w2.1
  have hok := made14_ok xs hx
  have hml := (made14_le xs).2
  have hn : (made14 xs).length ≤ 1000000 := by omega
  have hct : (cs.take 12).length ≤ 12 := by rw [List.length_take]; omega
  have hcl : (cs.take 12).length ≤ 1000000 := by omega
  have hO : openE (made14 xs) ⟨v.seed, IntKind.wrap .u16 v.process, (IntKind.wrap .u8 v.ports).tmod 17, 1 + IntKind.wrap .u8 v.look, time⟩ (begS value time source (cs.take 12) d) = 0 := made_open xs w1.1 (by show IntKind.wrap .u16 v.process ≤ 65536; omega) pt0 (by show 1 ≤ 1 + IntKind.wrap .u8 v.look; omega) ht.1 (by show time ≤ 281474976710656; omega) (by omega) hd.1 (by omega)
  have g1 := runO_le hO f0 (by omega)
  have g2 := runO_le (F := (fuel.tmod 512) + (more.tmod 301)) hO (by omega) (by omega)
  have g5 := runO_good' hok hO (by simp [begS]) f0 (by omega)
  have g6 := runO_good' (F := (fuel.tmod 512) + (more.tmod 301)) hok hO (by simp [begS]) (by omega) (by omega)
  have g3 := runO_same (n := (more.tmod 301)) hO f0 m0 (by omega)
  have g4 := runO_fuel (n := (more.tmod 301)) hO f0 m0 (by omega)
  obtain ⟨F, hF⟩ : ∃ F, F = (fuel.tmod 512) := ⟨_, rfl⟩
  obtain ⟨N, hN⟩ : ∃ N, N = (more.tmod 301) := ⟨_, rfl⟩
  rw [← hF] at f0 f1 g1 g2 g3 g4 g5 g6
  rw [← hN] at m0 m1 g2 g3 g4 g6
  obtain ⟨R, hR⟩ : ∃ R, runO (made14 xs) ⟨v.seed, IntKind.wrap .u16 v.process, (IntKind.wrap .u8 v.ports).tmod 17, 1 + IntKind.wrap .u8 v.look, time⟩ (begS value time source (cs.take 12) d) F = R := ⟨_, rfl⟩
  obtain ⟨T, hT⟩ : ∃ T, runO (made14 xs) ⟨v.seed, IntKind.wrap .u16 v.process, (IntKind.wrap .u8 v.ports).tmod 17, 1 + IntKind.wrap .u8 v.look, time⟩ (begS value time source (cs.take 12) d) (F + N) = T := ⟨_, rfl⟩
  rw [hR] at g1 g3 g4 g5
  rw [hT] at g2 g3 g4 g6
  have c5 := g5.c1
  have n5 := g5.n1
  have c6 := g6.c1
  have n6 := g6.n1
  have c5' : R.s.cells.length ≤ 1000000 := by omega
  have c6' : T.s.cells.length ≤ 1000000 := by omega
  by_cases hb : R.bad = 190
  · obtain ⟨q1, q2⟩ := g4 hb
    have r1 : ¬ F < (R.tr.length : Int) := by omega
    have r2 : ¬ F + N < (T.tr.length : Int) := by omega
    have hb0 : R.bad ≠ 0 := by omega
    have q3 : (R.tr.length : Int) = F := q1
    by_cases hN0 : N = 0
    · have hTR : T = R := by rw [← hT, hN0, Int.add_zero, hR]
      subst hTR
      have r3 : ¬ T.tr.length < T.tr.length := Nat.lt_irrefl _
      have r4 : ¬ (0 : Int) < N := by omega

      refine litOkM (fn := Try.f3) 5 95 0 rfl rfl rfl rfl rfl (by simp only [StableL, Stable, hp, i64S, prS, insS, sndsS, sndS, stS, evS, macS, cB, sB, HB.stable]; simp [HB.born]) rfl fun w0 M E hro => ?_
      repeat' (first | with_reducible (first | apply J1 | apply J3 | apply J4 | apply J5 | apply J6 | apply J7 | apply J8 | apply J9 | apply J10 | apply J11 | apply J12 | apply J13 | apply J14 | apply J15 | apply J16 | apply J17 | apply J18 | apply J19 | apply J20 | refine J2 ?_) | ((with_reducible apply J21); (· rfl)) | ((with_reducible intro hif); first | (focus (cases hif; done)) | (simp only [JH] at hif; try (exfalso; omega)) | (try (exfalso; omega))) | ((first | ((with_reducible apply J22 cMoB_ok tab_ok); (· rfl)) | ((with_reducible apply J23 fol cMoB_ok tab_ok); (· rfl)) | with_reducible apply J24); (· (simp only [push_cast, ↓JP, Nat.reduceAdd, Nat.reduceEqDiff, Nat.reduceLT, Nat.reduceMul, Nat.reduceLeDiff, reduceCtorEq, reduceIte, ↓JK, cB_eq, sB_eq, JE, JB, sAw19, sMd19, sCrG, sCrB, sSame19, inR, inN, Nat.sub_zero, cMoB, ← hF, ← hN, hR, hT, sameE_self, r1, r2, r3, r4, hb, hN0, q3, eq_self, Int.add_zero]; rfl)); (try kernel_rfl); (try (focus (first | exact True.intro | ((try simp only [JS, implies_true, forall_const, shaped, shapedL, kndOf, capB]); (repeat' (first | exact True.intro | assumption | omega | apply And.intro | rfl | decide | intro _)); done) | ((try simp only [JS, implies_true, forall_const, shaped, shapedL, kndOf, inR, inN]); (repeat' (first | assumption | exact True.intro | omega | apply And.intro)); done))))) | fail)
      apply At.endsRet tab_ok (fn := Try.f3) (rs := [.tmp 4]) Anc.refl hro (Nat.le_of_ble_eq_true rfl) rfl
      · simp only [push_cast, ↓JP, Nat.reduceAdd, Nat.reduceEqDiff, Nat.reduceLT, Nat.reduceMul, Nat.reduceLeDiff, reduceCtorEq, reduceIte, ↓JK, resV, resV1, cB_eq, sB_eq, JE, JB, sAw19, sMd19, sCrG, sCrB, sSame19, inR, inN, Nat.sub_zero, cMoB, sameE_self, r1, r2, r3, r4, hb, hN0, q3, eq_self, Int.add_zero]; rfl
      · (first | trivial | (simp only [and_self]; done))
      · (repeat' (first | exact trivial | exact .same _ | exact .dead _ | exact .gone rfl | exact .loose | assumption | exact .arr (by assumption) | apply And.intro))
      · rfl
      · (repeat' (first | exact trivial | exact rfl | assumption | apply Stable.ite | apply And.intro | intro _ | (simp only [Stable, StableL, i64S, prS, insS, sndsS, sndS, stS, evS, macS, cB, sB, HB.stable]; done)))
      · (repeat' (first | exact trivial | exact .inl rfl | exact .inr rfl | exact rfl | apply And.intro))
      · exact fun β => rfl
      · (repeat' (first | exact trivial | exact rfl | assumption | apply Stable.ite | apply And.intro | intro _ | (simp only [Stable, StableL, i64S, prS, insS, sndsS, sndS, stS, evS, macS, cB, sB, HB.stable]; done)))
    · have hNp : 0 < N := by omega
      have q4 := q2 hNp
      have r3 : ¬ T.tr.length < R.tr.length := by omega
      have r4 : R.tr.length < T.tr.length := by omega
      by_cases hbt : T.bad = 0
      · have hFN : ¬ (F + N = F) := by omega

        refine litOkM (fn := Try.f3) 5 95 0 rfl rfl rfl rfl rfl (by simp only [StableL, Stable, hp, i64S, prS, insS, sndsS, sndS, stS, evS, macS, cB, sB, HB.stable]; simp [HB.born]) rfl fun w0 M E hro => ?_
        repeat' (first | with_reducible (first | apply J1 | apply J3 | apply J4 | apply J5 | apply J6 | apply J7 | apply J8 | apply J9 | apply J10 | apply J11 | apply J12 | apply J13 | apply J14 | apply J15 | apply J16 | apply J17 | apply J18 | apply J19 | apply J20 | refine J2 ?_) | ((with_reducible apply J21); (· rfl)) | ((with_reducible intro hif); first | (focus (cases hif; done)) | (simp only [JH] at hif; try (exfalso; omega)) | (try (exfalso; omega))) | ((first | ((with_reducible apply J22 (cMoM_ok F) tab_ok); (· rfl)) | ((with_reducible apply J23 fol (cMoM_ok F) tab_ok); (· rfl)) | with_reducible apply J24); (· (simp only [push_cast, ↓JP, Nat.reduceAdd, Nat.reduceEqDiff, Nat.reduceLT, Nat.reduceMul, Nat.reduceLeDiff, reduceCtorEq, reduceIte, ↓JK, cB_eq, sB_eq, JE, JB, sAw19, sMd19, sCrG, sCrB, sSame19, inR, inN, Nat.sub_zero, cMoM, ← hF, ← hN, hR, hT, cMoM, sCrM, hFN, r1, r2, r3, r4, hb, hbt, hN0, hNp, q3, eq_self]; rfl)); (try kernel_rfl); (try (focus (first | exact True.intro | ((try simp only [JS, implies_true, forall_const, shaped, shapedL, kndOf, capB]); (repeat' (first | exact True.intro | assumption | omega | apply And.intro | rfl | decide | intro _)); done) | ((try simp only [JS, implies_true, forall_const, shaped, shapedL, kndOf, inR, inN]); (repeat' (first | assumption | exact True.intro | omega | apply And.intro)); done))))) | fail)
        apply At.endsRet tab_ok (fn := Try.f3) (rs := [.tmp 4]) Anc.refl hro (Nat.le_of_ble_eq_true rfl) rfl
        · simp only [push_cast, ↓JP, Nat.reduceAdd, Nat.reduceEqDiff, Nat.reduceLT, Nat.reduceMul, Nat.reduceLeDiff, reduceCtorEq, reduceIte, ↓JK, resV, resV1, cB_eq, sB_eq, JE, JB, sAw19, sMd19, sCrG, sCrB, sSame19, inR, inN, Nat.sub_zero, cMoM, cMoM, sCrM, hFN, r1, r2, r3, r4, hb, hbt, hN0, hNp, q3, eq_self]; rfl
        · (first | trivial | (simp only [and_self]; done))
        · (repeat' (first | exact trivial | exact .same _ | exact .dead _ | exact .gone rfl | exact .loose | assumption | exact .arr (by assumption) | apply And.intro))
        · rfl
        · (repeat' (first | exact trivial | exact rfl | assumption | apply Stable.ite | apply And.intro | intro _ | (simp only [Stable, StableL, i64S, prS, insS, sndsS, sndS, stS, evS, macS, cB, sB, HB.stable]; done)))
        · (repeat' (first | exact trivial | exact .inl rfl | exact .inr rfl | exact rfl | apply And.intro))
        · exact fun β => rfl
        · (repeat' (first | exact trivial | exact rfl | assumption | apply Stable.ite | apply And.intro | intro _ | (simp only [Stable, StableL, i64S, prS, insS, sndsS, sndS, stS, evS, macS, cB, sB, HB.stable]; done)))
      · skip

        refine litOkM (fn := Try.f3) 5 95 0 rfl rfl rfl rfl rfl (by simp only [StableL, Stable, hp, i64S, prS, insS, sndsS, sndS, stS, evS, macS, cB, sB, HB.stable]; simp [HB.born]) rfl fun w0 M E hro => ?_
        repeat' (first | with_reducible (first | apply J1 | apply J3 | apply J4 | apply J5 | apply J6 | apply J7 | apply J8 | apply J9 | apply J10 | apply J11 | apply J12 | apply J13 | apply J14 | apply J15 | apply J16 | apply J17 | apply J18 | apply J19 | apply J20 | refine J2 ?_) | ((with_reducible apply J21); (· rfl)) | ((with_reducible intro hif); first | (focus (cases hif; done)) | (simp only [JH] at hif; try (exfalso; omega)) | (try (exfalso; omega))) | ((first | ((with_reducible apply J22 cMoB_ok tab_ok); (· rfl)) | ((with_reducible apply J23 fol cMoB_ok tab_ok); (· rfl)) | with_reducible apply J24); (· (simp only [push_cast, ↓JP, Nat.reduceAdd, Nat.reduceEqDiff, Nat.reduceLT, Nat.reduceMul, Nat.reduceLeDiff, reduceCtorEq, reduceIte, ↓JK, cB_eq, sB_eq, JE, JB, sAw19, sMd19, sCrG, sCrB, sSame19, inR, inN, Nat.sub_zero, cMoB, ← hF, ← hN, hR, hT, r1, r2, r3, r4, hb, hbt, hN0, hNp, q3, eq_self]; rfl)); (try kernel_rfl); (try (focus (first | exact True.intro | ((try simp only [JS, implies_true, forall_const, shaped, shapedL, kndOf, capB]); (repeat' (first | exact True.intro | assumption | omega | apply And.intro | rfl | decide | intro _)); done) | ((try simp only [JS, implies_true, forall_const, shaped, shapedL, kndOf, inR, inN]); (repeat' (first | assumption | exact True.intro | omega | apply And.intro)); done))))) | fail)
        apply At.endsRet tab_ok (fn := Try.f3) (rs := [.tmp 4]) Anc.refl hro (Nat.le_of_ble_eq_true rfl) rfl
        · simp only [push_cast, ↓JP, Nat.reduceAdd, Nat.reduceEqDiff, Nat.reduceLT, Nat.reduceMul, Nat.reduceLeDiff, reduceCtorEq, reduceIte, ↓JK, resV, resV1, cB_eq, sB_eq, JE, JB, sAw19, sMd19, sCrG, sCrB, sSame19, inR, inN, Nat.sub_zero, cMoB, r1, r2, r3, r4, hb, hbt, hN0, hNp, q3, eq_self]; rfl
        · (first | trivial | (simp only [and_self]; done))
        · (repeat' (first | exact trivial | exact .same _ | exact .dead _ | exact .gone rfl | exact .loose | assumption | exact .arr (by assumption) | apply And.intro))
        · rfl
        · (repeat' (first | exact trivial | exact rfl | assumption | apply Stable.ite | apply And.intro | intro _ | (simp only [Stable, StableL, i64S, prS, insS, sndsS, sndS, stS, evS, macS, cB, sB, HB.stable]; done)))
        · (repeat' (first | exact trivial | exact .inl rfl | exact .inr rfl | exact rfl | apply And.intro))
        · exact fun β => rfl
        · (repeat' (first | exact trivial | exact rfl | assumption | apply Stable.ite | apply And.intro | intro _ | (simp only [Stable, StableL, i64S, prS, insS, sndsS, sndS, stS, evS, macS, cB, sB, HB.stable]; done)))
  · have hTR := g3 hb
    have r3 : ¬ R.tr.length < R.tr.length := Nat.lt_irrefl _
    subst hTR
    have r1 : ¬ F < (T.tr.length : Int) := by omega
    have r2 : ¬ F + N < (T.tr.length : Int) := by omega
    by_cases hz : T.bad = 0
    · skip

      refine litOkM (fn := Try.f3) 5 95 0 rfl rfl rfl rfl rfl (by simp only [StableL, Stable, hp, i64S, prS, insS, sndsS, sndS, stS, evS, macS, cB, sB, HB.stable]; simp [HB.born]) rfl fun w0 M E hro => ?_
      repeat' (first | with_reducible (first | apply J1 | apply J3 | apply J4 | apply J5 | apply J6 | apply J7 | apply J8 | apply J9 | apply J10 | apply J11 | apply J12 | apply J13 | apply J14 | apply J15 | apply J16 | apply J17 | apply J18 | apply J19 | apply J20 | refine J2 ?_) | ((with_reducible apply J21); (· rfl)) | ((with_reducible intro hif); first | (focus (cases hif; done)) | (simp only [JH] at hif; try (exfalso; omega)) | (try (exfalso; omega))) | ((first | ((with_reducible apply J22 cMoG_ok tab_ok); (· rfl)) | ((with_reducible apply J23 fol cMoG_ok tab_ok); (· rfl)) | with_reducible apply J24); (· (simp only [push_cast, ↓JP, Nat.reduceAdd, Nat.reduceEqDiff, Nat.reduceLT, Nat.reduceMul, Nat.reduceLeDiff, reduceCtorEq, reduceIte, ↓JK, cB_eq, sB_eq, JE, JB, sAw19, sMd19, sCrG, sCrB, sSame19, inR, inN, Nat.sub_zero, cMoG, ← hF, ← hN, hR, hT, sameE_self, r1, r2, r3, hz, eq_self]; rfl)); (try kernel_rfl); (try (focus (first | exact True.intro | ((try simp only [JS, implies_true, forall_const, shaped, shapedL, kndOf, capB]); (repeat' (first | exact True.intro | assumption | omega | apply And.intro | rfl | decide | intro _)); done) | ((try simp only [JS, implies_true, forall_const, shaped, shapedL, kndOf, inR, inN]); (repeat' (first | assumption | exact True.intro | omega | apply And.intro)); done))))) | fail)
      apply At.endsRet tab_ok (fn := Try.f3) (rs := [.tmp 4]) Anc.refl hro (Nat.le_of_ble_eq_true rfl) rfl
      · simp only [push_cast, ↓JP, Nat.reduceAdd, Nat.reduceEqDiff, Nat.reduceLT, Nat.reduceMul, Nat.reduceLeDiff, reduceCtorEq, reduceIte, ↓JK, resV, resV1, cB_eq, sB_eq, JE, JB, sAw19, sMd19, sCrG, sCrB, sSame19, inR, inN, Nat.sub_zero, cMoG, sameE_self, r1, r2, r3, hz, eq_self]; rfl
      · (first | trivial | (simp only [and_self]; done))
      · (repeat' (first | exact trivial | exact .same _ | exact .dead _ | exact .gone rfl | exact .loose | assumption | exact .arr (by assumption) | apply And.intro))
      · rfl
      · (repeat' (first | exact trivial | exact rfl | assumption | apply Stable.ite | apply And.intro | intro _ | (simp only [Stable, StableL, i64S, prS, insS, sndsS, sndS, stS, evS, macS, cB, sB, HB.stable]; done)))
      · (repeat' (first | exact trivial | exact .inl rfl | exact .inr rfl | exact rfl | apply And.intro))
      · exact fun β => rfl
      · (repeat' (first | exact trivial | exact rfl | assumption | apply Stable.ite | apply And.intro | intro _ | (simp only [Stable, StableL, i64S, prS, insS, sndsS, sndS, stS, evS, macS, cB, sB, HB.stable]; done)))
    · skip

      refine litOkM (fn := Try.f3) 5 95 0 rfl rfl rfl rfl rfl (by simp only [StableL, Stable, hp, i64S, prS, insS, sndsS, sndS, stS, evS, macS, cB, sB, HB.stable]; simp [HB.born]) rfl fun w0 M E hro => ?_
      repeat' (first | with_reducible (first | apply J1 | apply J3 | apply J4 | apply J5 | apply J6 | apply J7 | apply J8 | apply J9 | apply J10 | apply J11 | apply J12 | apply J13 | apply J14 | apply J15 | apply J16 | apply J17 | apply J18 | apply J19 | apply J20 | refine J2 ?_) | ((with_reducible apply J21); (· rfl)) | ((with_reducible intro hif); first | (focus (cases hif; done)) | (simp only [JH] at hif; try (exfalso; omega)) | (try (exfalso; omega))) | ((first | ((with_reducible apply J22 cMoB_ok tab_ok); (· rfl)) | ((with_reducible apply J23 fol cMoB_ok tab_ok); (· rfl)) | with_reducible apply J24); (· (simp only [push_cast, ↓JP, Nat.reduceAdd, Nat.reduceEqDiff, Nat.reduceLT, Nat.reduceMul, Nat.reduceLeDiff, reduceCtorEq, reduceIte, ↓JK, cB_eq, sB_eq, JE, JB, sAw19, sMd19, sCrG, sCrB, sSame19, inR, inN, Nat.sub_zero, cMoB, ← hF, ← hN, hR, hT, sameE_self, r1, r2, r3, hb, hz, eq_self]; rfl)); (try kernel_rfl); (try (focus (first | exact True.intro | ((try simp only [JS, implies_true, forall_const, shaped, shapedL, kndOf, capB]); (repeat' (first | exact True.intro | assumption | omega | apply And.intro | rfl | decide | intro _)); done) | ((try simp only [JS, implies_true, forall_const, shaped, shapedL, kndOf, inR, inN]); (repeat' (first | assumption | exact True.intro | omega | apply And.intro)); done))))) | fail)
      apply At.endsRet tab_ok (fn := Try.f3) (rs := [.tmp 4]) Anc.refl hro (Nat.le_of_ble_eq_true rfl) rfl
      · simp only [push_cast, ↓JP, Nat.reduceAdd, Nat.reduceEqDiff, Nat.reduceLT, Nat.reduceMul, Nat.reduceLeDiff, reduceCtorEq, reduceIte, ↓JK, resV, resV1, cB_eq, sB_eq, JE, JB, sAw19, sMd19, sCrG, sCrB, sSame19, inR, inN, Nat.sub_zero, cMoB, sameE_self, r1, r2, r3, hb, hz, eq_self]; rfl
      · (first | trivial | (simp only [and_self]; done))
      · (repeat' (first | exact trivial | exact .same _ | exact .dead _ | exact .gone rfl | exact .loose | assumption | exact .arr (by assumption) | apply And.intro))
      · rfl
      · (repeat' (first | exact trivial | exact rfl | assumption | apply Stable.ite | apply And.intro | intro _ | (simp only [Stable, StableL, i64S, prS, insS, sndsS, sndS, stS, evS, macS, cB, sB, HB.stable]; done)))
      · (repeat' (first | exact trivial | exact .inl rfl | exact .inr rfl | exact rfl | apply And.intro))
      · exact fun β => rfl
      · (repeat' (first | exact trivial | exact rfl | assumption | apply Stable.ite | apply And.intro | intro _ | (simp only [Stable, StableL, i64S, prS, insS, sndsS, sndS, stS, evS, macS, cB, sB, HB.stable]; done)))
end Go.Proofs.Ytjliakjbdcplcaa.Vm
end

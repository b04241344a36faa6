import Derived.Test.YtmljmabbopkpiaaG7
import Derived.Test.YtmljmabbopkpiaaG8
section
/- code: Check, Goes, Target; flow.right. -/
namespace Go.Proofs.Ytmljmabbopkpiaa.Vm
open Go.RowKit
attribute [local push_cast] runR opG gtmp gval gus opX tmpsOf tm tmO tmP restr look look2 tab tys zs ets eqB eqBL allB numOf ieq Int.cast_ofNat_Int Int.ofNat_zero beq_true beq_false frameOf ev evL ofV opV loadV noW pushF wrsL setH allBorn allGone HB.born HB.isGone HB.val SV.plain dstOk hp nav fitsT SV.size sizeL SV.isAgg TK.size TK.agg bin binE binN binI arN arI cmpN cmpI keq kn narrow callV storeV setp fillV buildV buildSliceV makeV sliceV appendV copyV List.isEmpty_nil srcV evO asN ite_t ite_f ite_bool ite_int ite_nat maxV v_beq v_ble v_blt cond_true cond_false List.getElem?_cons_zero List.getElem?_cons_succ List.getD_cons_zero List.getD_cons_succ List.getD_nil List.length_cons List.length_nil List.take_succ_cons List.take_zero List.set_cons_zero List.set_cons_succ List.cons_append List.nil_append List.append_assoc List.replicate_succ List.replicate_zero Nat.zero_add Nat.add_zero decide_true decide_false Bool.true_and Bool.and_true Bool.false_and Bool.and_false Bool.true_or Bool.or_true Bool.false_or Bool.or_false beq_self_eq_true Bool.or_self Nat.lt_irrefl Nat.not_lt_zero Nat.le_refl Option.getD_some Option.getD_none BEq.rfl Bool.not_true Bool.not_false Bool.cond_true_left Bool.cond_false_right
set_option linter.unusedVariables false
set_option linter.unusedSimpArgs false
set_option maxRecDepth 100000
set_option maxHeartbeats 4000000
def sCheck : Spec := fun args h m => match args with
  | [v1] => match srcV h 5 (.tup []) v1 with
    | some (c1, n1, f1, r1) => some (c1 ∧ (∀ q, q < n1 → isIns (f1 q) = true) ∧ ((∀ x ∈ (ls insOf n1 f1), x.ok)) ∧ (n1 ≤ 281474976710656), .tup [.int .i64 (checkI (ls insOf n1 f1)).1, .int .i64 (checkI (ls insOf n1 f1)).2], r1, [])
    | _ => none
  | _ => none
theorem sCheck_ok : CallOk Try.prog 55 sCheck := by
  refine ⟨named_spec (by kernel_rfl), fun args h m c v rd wr hs hm hc w0 M β h' w R hrd hwr hst => ?_⟩
  unfold sCheck at hs
  split at hs
  · rename_i v1
    split at hs
    · rename_i c1 n1 f1 r1 a1
      simp only [Option.some.injEq, Prod.mk.injEq] at hs
      obtain ⟨rfl, rfl, rfl, rfl⟩ := hs
      obtain ⟨k1, g1, y1, y2⟩ := hc
      obtain ⟨A1, p1, d1, e1, t1⟩ := reads_src R a1 k1 (fun i hi => hrd i hi) (by omega)
      rw [elems_ins g1] at t1
      simp only [denL, aggDen, intDen, natDen, boolDen, d1]
      exact (check_c A1 n1 p1 (by omega) (ls insOf n1 f1) y1 w t1).mono fun e w' he => post_read R (by (first | exact trivial | (repeat' (first | exact trivial | exact rfl | assumption | exact prS_stable _ | exact i64S_stable _ | exact sndsS_stable _ | exact insS_stable _ | exact sndS_stable _ | exact hst _ _ | exact hst1 _ _ | exact hst2 _ _ | apply Stable.ite | apply And.intro | intro _ | (simp only [Stable, StableL, i64S, prS, insS, sndsS, sndS]; done))))) rfl he.1 he.2
    · cases hs
  · cases hs
def sGoes : Spec := fun args h m => match args with
  | [v1] => bif isIns v1 then some (((insOf v1).ok), .bool (goesB (insOf v1)), [], []) else none
  | _ => none
theorem sGoes_ok : CallOk Try.prog 99 sGoes := by
  refine ⟨named_spec (by kernel_rfl), fun args h m c v rd wr hs hm hc w0 M β h' w R hrd hwr hst => ?_⟩
  unfold sGoes at hs
  split at hs
  · rename_i v1
    obtain ⟨hb, hs⟩ := bif_some hs
    simp only [Option.some.injEq, Prod.mk.injEq] at hs
    obtain ⟨rfl, rfl, rfl, rfl⟩ := hs
    have b1 := hb
    have y1 := hc
    simp only [denL, aggDen, intDen, natDen, boolDen, den_insOf b1]
    exact (goes_c (insOf v1) y1 w).mono fun e w' he => post_read R (by (first | exact trivial | (repeat' (first | exact trivial | exact rfl | assumption | exact prS_stable _ | exact i64S_stable _ | exact sndsS_stable _ | exact insS_stable _ | exact sndS_stable _ | exact hst _ _ | exact hst1 _ _ | exact hst2 _ _ | apply Stable.ite | apply And.intro | intro _ | (simp only [Stable, StableL, i64S, prS, insS, sndsS, sndS]; done))))) rfl he.1 he.2
  · cases hs
def sTarget : Spec := fun args h m => match args with
  | [v1] => bif isIns v1 then some (((insOf v1).ok), .tup [.int .i64 (targV (insOf v1)), .bool (targB (insOf v1))], [], []) else none
  | _ => none
theorem sTarget_ok : CallOk Try.prog 98 sTarget := by
  refine ⟨named_spec (by kernel_rfl), fun args h m c v rd wr hs hm hc w0 M β h' w R hrd hwr hst => ?_⟩
  unfold sTarget at hs
  split at hs
  · rename_i v1
    obtain ⟨hb, hs⟩ := bif_some hs
    simp only [Option.some.injEq, Prod.mk.injEq] at hs
    obtain ⟨rfl, rfl, rfl, rfl⟩ := hs
    have b1 := hb
    have y1 := hc
    simp only [denL, aggDen, intDen, natDen, boolDen, den_insOf b1]
    exact (target_c (insOf v1) y1 w).mono fun e w' he => post_read R (by (first | exact trivial | (repeat' (first | exact trivial | exact rfl | assumption | exact prS_stable _ | exact i64S_stable _ | exact sndsS_stable _ | exact insS_stable _ | exact sndS_stable _ | exact hst _ _ | exact hst1 _ _ | exact hst2 _ _ | apply Stable.ite | apply And.intro | intro _ | (simp only [Stable, StableL, i64S, prS, insS, sndsS, sndS]; done))))) rfl he.1 he.2
  · cases hs
def cRight : FuncId → Option Spec := look2 [(55, sCheck)]
theorem cRight_ok : ∀ f S, cRight f = some S → CallOk Try.prog f S := allOk_spec ⟨sCheck_ok, trivial⟩
def rightI (p : List Ins) : Int := if (checkI p).2 = 0 then 0 else 160
theorem right_lit (xs : List Ins) (p1 : Nat) (hx : ∀ x ∈ xs, x.ok) (hl : xs.length ≤ 281474976710656) : LitOk Try.prog 93 [.sl 1 2 [] 5 0 xs.length (some p1)] [.gone, .gone, .ro (.arr xs.length 5 (prS xs))] (.int .i64 (rightI xs)) [.gone] := by
  refine litOkM (fn := Try.f93) 3 12 0 rfl rfl rfl rfl rfl (by simp only [StableL, Stable, hp]; simp [HB.born]) rfl fun w0 M E hro => ?_
  repeat' (first
    | with_reducible (first | apply WF.seq | refine At.code ?_ | apply At.thenNormal | apply At.thenRet | apply At.thenExit | apply At.thenGoto | apply At.inNormal | apply At.inRet | apply At.inGoto | apply At.inHit | apply At.noGotoNormal | apply At.noGotoRet | apply At.noGotoExit | apply WF.skip | apply WF.ret | apply WF.exit | apply WF.goto | apply WF.label | apply WF.block | apply WF.scope)
    | ((with_reducible apply At.inMiss); · rfl)
    | ((with_reducible intro hif); first | (focus (cases hif; done)) | (simp only [Bool.not_eq_true', Bool.not_eq_false', decide_eq_true_eq, decide_eq_false_iff_not, Bool.and_eq_true, Bool.or_eq_true] at hif; try (exfalso; omega)) | (try (exfalso; omega)))
    | ((first | ((with_reducible apply WF.region cRight_ok tab_ok); · rfl) | ((with_reducible apply WF.drawn fol cRight_ok tab_ok); · rfl) | with_reducible apply WF.cond)
       · simp only [push_cast, ↓Int.cast_ofNat_Int, ↓ofV_m1, ↓ofV_min, Nat.reduceAdd, Nat.reduceEqDiff, Nat.reduceLT, Nat.reduceMul, Nat.reduceLeDiff, reduceCtorEq, reduceIte, cRight, sCheck, ls_prS, ls_prS']; rfl
       try kernel_rfl
       try (focus ((first | exact True.intro | (simp only [and_self, implies_true, true_and, and_true, forall_const, false_implies, true_implies, Bool.not_eq_true', imp_self, shaped, shapedL, kndOf, cRight, sCheck, ls_prS, ls_prS']; done) | (simp only [and_self, implies_true, true_and, and_true, forall_const, false_implies, true_implies, Bool.not_eq_true', imp_self, shaped, shapedL, kndOf, cRight, sCheck, ls_prS, ls_prS']; (first | exact ⟨fun q _ => rfl, hx, hl⟩ | (repeat' (first | assumption | exact True.intro | omega | apply And.intro)))) | ((first | exact ⟨fun q _ => rfl, hx, hl⟩ | (repeat' (first | assumption | exact True.intro | omega | apply And.intro))))); done)))
    | fail)
  · apply At.endsRet tab_ok (fn := Try.f93) (rs := [.tmp 2]) Anc.refl hro (Nat.le_of_ble_eq_true rfl) rfl
    · simp only [push_cast, ↓Int.cast_ofNat_Int, ↓ofV_m1, ↓ofV_min, Nat.reduceAdd, Nat.reduceEqDiff, Nat.reduceLT, Nat.reduceMul, Nat.reduceLeDiff, reduceCtorEq, reduceIte, resV, resV1]; rfl
    · (first | trivial | (simp only [and_self]; done))
    · (repeat' (first | exact trivial | exact .same _ | exact .dead _ | exact .gone rfl | exact .loose | assumption | exact .arr (by assumption) | apply And.intro))
    · rfl
    · (first | exact trivial | (repeat' (first | exact trivial | exact rfl | assumption | exact prS_stable _ | exact i64S_stable _ | exact sndsS_stable _ | exact insS_stable _ | exact sndS_stable _ | exact hst _ _ | exact hst1 _ _ | exact hst2 _ _ | apply Stable.ite | apply And.intro | intro _ | (simp only [Stable, StableL, i64S, prS, insS, sndsS, sndS]; done))))
    · (repeat' (first | exact trivial | exact .inl rfl | exact .inr rfl | exact rfl | apply And.intro))
    · intro β; simp [resS, SV.den, rightI, hif]
    · (first | exact trivial | (repeat' (first | exact trivial | exact rfl | assumption | exact prS_stable _ | exact i64S_stable _ | exact sndsS_stable _ | exact insS_stable _ | exact sndS_stable _ | exact hst _ _ | exact hst1 _ _ | exact hst2 _ _ | apply Stable.ite | apply And.intro | intro _ | (simp only [Stable, StableL, i64S, prS, insS, sndsS, sndS]; done))))
  · apply At.endsRet tab_ok (fn := Try.f93) (rs := [.tmp 2]) Anc.refl hro (Nat.le_of_ble_eq_true rfl) rfl
    · simp only [push_cast, ↓Int.cast_ofNat_Int, ↓ofV_m1, ↓ofV_min, Nat.reduceAdd, Nat.reduceEqDiff, Nat.reduceLT, Nat.reduceMul, Nat.reduceLeDiff, reduceCtorEq, reduceIte, resV, resV1]; rfl
    · (first | trivial | (simp only [and_self]; done))
    · (repeat' (first | exact trivial | exact .same _ | exact .dead _ | exact .gone rfl | exact .loose | assumption | exact .arr (by assumption) | apply And.intro))
    · rfl
    · (first | exact trivial | (repeat' (first | exact trivial | exact rfl | assumption | exact prS_stable _ | exact i64S_stable _ | exact sndsS_stable _ | exact insS_stable _ | exact sndS_stable _ | exact hst _ _ | exact hst1 _ _ | exact hst2 _ _ | apply Stable.ite | apply And.intro | intro _ | (simp only [Stable, StableL, i64S, prS, insS, sndsS, sndS]; done))))
    · (repeat' (first | exact trivial | exact .inl rfl | exact .inr rfl | exact rfl | apply And.intro))
    · intro β; simp [resS, SV.den, rightI, hif]
    · (first | exact trivial | (repeat' (first | exact trivial | exact rfl | assumption | exact prS_stable _ | exact i64S_stable _ | exact sndsS_stable _ | exact insS_stable _ | exact sndS_stable _ | exact hst _ _ | exact hst1 _ _ | exact hst2 _ _ | apply Stable.ite | apply And.intro | intro _ | (simp only [Stable, StableL, i64S, prS, insS, sndsS, sndS]; done))))
def sRight : Spec := fun args h m => match args with
  | [v1] => match srcV h 5 (.tup []) v1 with
    | some (c1, n1, f1, r1) => some (c1 ∧ (∀ q, q < n1 → isIns (f1 q) = true) ∧ ((∀ x ∈ (ls insOf n1 f1), x.ok)) ∧ (n1 ≤ 281474976710656), .int .i64 (rightI (ls insOf n1 f1)), r1, [])
    | _ => none
  | _ => none
theorem sRight_ok : CallOk Try.prog 93 sRight := by
  refine ⟨named_spec (by kernel_rfl), fun args h m c v rd wr hs hm hc w0 M β h' w R hrd hwr hst => ?_⟩
  unfold sRight at hs
  split at hs
  · rename_i v1
    split at hs
    · rename_i c1 n1 f1 r1 a1
      simp only [Option.some.injEq, Prod.mk.injEq] at hs
      obtain ⟨rfl, rfl, rfl, rfl⟩ := hs
      obtain ⟨k1, g1, y1, y2⟩ := hc
      obtain ⟨A1, p1, d1, e1, t1⟩ := reads_src R a1 k1 (fun i hi => hrd i hi) (by omega)
      refine callRo (views := [⟨5, (ls insOf n1 f1).length, prS (ls insOf n1 f1), A1, p1⟩]) (right_lit (ls insOf n1 f1) p1 y1 (by rw [ls_length]; exact y2)) ?_ R hm hwr ?_ ?_ ?_
      · intro x hx
        simp only [List.mem_cons, List.not_mem_nil, or_false] at hx
        subst hx
        · exact viewIns t1 e1 g1
      · intro β1 hv
        simp only [Vd, ls_length, and_true] at hv
        have z1 := hv
        simp only [denL, aggDen, intDen, natDen, boolDen, ls_length, z1, d1]
      · (first | exact trivial | (repeat' (first | exact trivial | exact rfl | assumption | exact prS_stable _ | exact i64S_stable _ | exact sndsS_stable _ | exact insS_stable _ | exact sndS_stable _ | exact hst _ _ | exact hst1 _ _ | exact hst2 _ _ | apply Stable.ite | apply And.intro | intro _ | (simp only [Stable, StableL, i64S, prS, insS, sndsS, sndS]; done))))
      · (first | exact trivial | (repeat' (first | exact trivial | exact rfl | assumption | exact prS_stable _ | exact i64S_stable _ | exact sndsS_stable _ | exact insS_stable _ | exact sndS_stable _ | exact hst _ _ | exact hst1 _ _ | exact hst2 _ _ | apply Stable.ite | apply And.intro | intro _ | (simp only [Stable, StableL, i64S, prS, insS, sndsS, sndS]; done))))
    · cases hs
  · cases hs
end Go.Proofs.Ytmljmabbopkpiaa.Vm
end

section
/- Instructions and events as values that are not opened: what stands in them. -/
namespace Go.Proofs.Ytmljmabbopkpiaa.Vm
open Go.RowKit
theorem insS_agg (i : Ins) : (insS i).isAgg = true := rfl
theorem insS_plain (i : Ins) : (insS i).plain = true := rfl
theorem nav_ins (i : Ins) : nav (insS i) [] = some (True, insS i) := rfl
theorem nav_ins0 (i : Ins) (pa : List Stp) : nav (insS i) (.f 0 0 :: pa) = nav (.int .u8 i.op) pa := rfl
theorem nav_ins1 (i : Ins) (pa : List Stp) : nav (insS i) (.f 1 1 :: pa) = nav (.int .u8 i.a) pa := rfl
theorem nav_ins2 (i : Ins) (pa : List Stp) : nav (insS i) (.f 2 2 :: pa) = nav (.int .u8 i.b) pa := rfl
theorem nav_ins3 (i : Ins) (pa : List Stp) : nav (insS i) (.f 3 3 :: pa) = nav (.int .u8 i.c) pa := rfl
theorem nav_ins4 (i : Ins) (pa : List Stp) : nav (insS i) (.f 4 4 :: pa) = nav (.int .i64 i.n) pa := rfl
theorem sndS_size (i : Snd) : (sndS i).size = 3 := rfl
theorem sndS_agg (i : Snd) : (sndS i).isAgg = true := rfl
theorem sndS_plain (i : Snd) : (sndS i).plain = true := rfl
theorem nav_snd (i : Snd) : nav (sndS i) [] = some (True, sndS i) := rfl
theorem nav_snd0 (i : Snd) (pa : List Stp) : nav (sndS i) (.f 0 0 :: pa) = nav (.int .i64 i.port) pa := rfl
theorem nav_snd1 (i : Snd) (pa : List Stp) : nav (sndS i) (.f 1 1 :: pa) = nav (.int .i64 i.delay) pa := rfl
theorem nav_snd2 (i : Snd) (pa : List Stp) : nav (sndS i) (.f 2 2 :: pa) = nav (.int .i64 i.value) pa := rfl
theorem insS_stable {h : HM} (i : Ins) : Stable h (insS i) := by simp [insS, Stable, StableL]
theorem sndS_stable {h : HM} (i : Snd) : Stable h (sndS i) := by simp [sndS, Stable, StableL]
end Go.Proofs.Ytmljmabbopkpiaa.Vm
end

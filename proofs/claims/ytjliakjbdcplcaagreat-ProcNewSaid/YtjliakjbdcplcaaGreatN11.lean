import Derived.Test.YtjliakjbdcplcaaGreatN6
import Derived.Test.YtjliakjbdcplcaaGreatN8
import Derived.Test.YtjliakjbdcplcaaGreatN9
import Derived.Test.YtjliakjbdcplcaaGreatN10
section
namespace Go.Proofs.YtjliakjbdcplcaaGreat.Vm
theorem b57 {P : Prop} (h : P := by (repeat' (first | exact trivial | exact rfl | assumption | apply Stable.ite | apply And.intro | intro _ | (simp only [Stable, StableL, fldS_st, hp, List.getD_cons_succ, List.getD_cons_zero, HB.born, true_or, i64S, prS, insS, sndsS, sndS, evtsS, evtS]; done)))) : P := h
theorem b58 {P : Prop} (h : P := by simp only [push_cast, ↓JP, Nat.reduceAdd, Nat.reduceEqDiff, Nat.reduceLT, Nat.reduceMul, Nat.reduceLeDiff, reduceCtorEq, reduceIte, ↓JK]; rfl) : P := h
theorem b59 {P : Prop} (h : P := by simp only [push_cast, ↓JP, Nat.reduceAdd, Nat.reduceEqDiff, Nat.reduceLT, Nat.reduceMul, Nat.reduceLeDiff, reduceCtorEq, reduceIte, ↓JK, noDefer, List.drop_zero, List.drop_succ_cons, cFl, rFl, pkB, fldS, nodupN, memN, inR, inN, h1, h2]; rfl) : P := h
theorem b60 {P : Prop} (h : P := by (focus (first | exact True.intro | ((try simp only [JS, implies_true, forall_const, shaped, shapedL, kndOf, inR, inN]); (repeat' (first | assumption | exact True.intro | omega | apply And.intro)); done)))) : P := h
theorem b61 {P : Prop} (h : P := by first | rfl | (simp only [push_cast, ↓JP, Nat.reduceAdd, Nat.reduceEqDiff, Nat.reduceLT, Nat.reduceMul, Nat.reduceLeDiff, reduceCtorEq, reduceIte, ↓JK, noDefer, List.drop_zero, List.drop_succ_cons, cFl, rFl, pkB, fldS, nodupN, memN, inR, inN, h1, h2]; done)) : P := h
theorem b62 {P : Prop} (h : P := by (repeat' (first | exact trivial | exact rfl | assumption | apply Stable.ite | apply And.intro | intro _ | (simp only [Stable, StableL, fldS_st, hp, List.getD_cons_succ, List.getD_cons_zero, HB.born, true_or, pkB, HB.stable, i64S, prS, insS, sndsS, sndS, evtsS, evtS]; done)))) : P := h
theorem b63 {P : Prop} (h : P := by (repeat' (first | exact trivial | exact .inl rfl | exact .inr (.same _) | exact .inr .loose | exact .inr (.arr (by assumption)) | apply And.intro | exact .inr (less_fld rfl fun q hq β => rfl)))) : P := h
theorem b64 {P : Prop} (h : P := by simp only [push_cast, ↓JP, Nat.reduceAdd, Nat.reduceEqDiff, Nat.reduceLT, Nat.reduceMul, Nat.reduceLeDiff, reduceCtorEq, reduceIte, ↓JK, noDefer, List.drop_zero, List.drop_succ_cons, cFl, rFl, pkB, fldS, nodupN, memN, inR, inN]; rfl) : P := h
theorem b65 {P : Prop} (h : P := by first | rfl | (simp only [push_cast, ↓JP, Nat.reduceAdd, Nat.reduceEqDiff, Nat.reduceLT, Nat.reduceMul, Nat.reduceLeDiff, reduceCtorEq, reduceIte, ↓JK, noDefer, List.drop_zero, List.drop_succ_cons, cFl, rFl, pkB, fldS, nodupN, memN, inR, inN]; done)) : P := h
theorem b66 {P : Prop} (h : P := by (repeat' (first | exact trivial | exact .inl rfl | exact .inr (.same _) | exact .inr .loose | exact .inr (.arr (by assumption)) | apply And.intro | (refine .inr (less_fld rfl ?_); intro q hq β; rcases q with _ | _ | _ | q <;> first | rfl | (exfalso; omega))))) : P := h
theorem b67 {P : Prop} (h : P := by (repeat' (first | exact trivial | exact ⟨_, rfl, fun β => rfl⟩ | apply And.intro))) : P := h
theorem b68 {P : Prop} (h : P := by (first | exact True.intro | ((try simp only [JS, implies_true, forall_const, shaped, shapedL, kndOf, inR, inN]); (first | first | omega | exact ⟨hok, hn2⟩ | (repeat' (first | assumption | exact True.intro | omega | apply And.intro))); done))) : P := h
theorem b69 {P : Prop} (h : P := by (simp only [push_cast, ↓JP, Nat.reduceAdd, Nat.reduceEqDiff, Nat.reduceLT, Nat.reduceMul, Nat.reduceLeDiff, reduceCtorEq, reduceIte, ↓JK, JE, cPr, sCheck, sIs, sConP, inR, inN, q1, q2, q3, q4, q5, q6, q7, q8]; rfl)) : P := h
theorem b70 {P : Prop} (h : P := by (first | exact True.intro | ((try simp only [JS, implies_true, forall_const, shaped, shapedL, kndOf, inR, inN]); (first | first | omega | exact ⟨hok, hn, hc, hpo⟩ | (repeat' (first | assumption | exact True.intro | omega | apply And.intro))); done))) : P := h
theorem b71 {P : Prop} (h : P := by (simp only [push_cast, ↓JP, Nat.reduceAdd, Nat.reduceEqDiff, Nat.reduceLT, Nat.reduceMul, Nat.reduceLeDiff, reduceCtorEq, reduceIte, ↓JK, JE, prc_eta, cPc, sPRight, inR, inN, q1, q2, q3, q4, hr]; rfl)) : P := h
theorem b72 {P : Prop} (h : P := by (simp only [push_cast, ↓JP, Nat.reduceAdd, Nat.reduceEqDiff, Nat.reduceLT, Nat.reduceMul, Nat.reduceLeDiff, reduceCtorEq, reduceIte, ↓JK, cFl, rFl, pkB, fldS, nodupN, memN, inR, inN]; rfl)) : P := h
theorem b73 {P : Prop} (h : P := by (simp only [push_cast, ↓JP, Nat.reduceAdd, Nat.reduceEqDiff, Nat.reduceLT, Nat.reduceMul, Nat.reduceLeDiff, reduceCtorEq, reduceIte, ↓JK, cFl, rFl, pkB, fldS, nodupN, memN, inR, inN, h1, h2]; rfl)) : P := h
theorem b74 {P : Prop} (h : P := by (simp only [push_cast, ↓JP, Nat.reduceAdd, Nat.reduceEqDiff, Nat.reduceLT, Nat.reduceMul, Nat.reduceLeDiff, reduceCtorEq, reduceIte, ↓JK, cNan, sNan, inR, inN, h1, h2]; rfl)) : P := h
end Go.Proofs.YtjliakjbdcplcaaGreat.Vm
end
section
open Go.Proofs.YtjliakjbdcplcaaGreat.Vm Go.RowKit
attribute [local push_cast] runR opG gtmp gval gus opX tmpsOf tm tmO tmP restr look look2 tab tys zs ets eqB eqBL allB numOf ieq Int.cast_ofNat_Int Int.ofNat_zero beq_true beq_false frameOf ev evL ofV opV loadV noW pushF wrsL setH allBorn allGone HB.born HB.isGone HB.val SV.plain dstOk hp nav fitsT SV.size sizeL SV.isAgg TK.size TK.agg bin binE binN binI arN arI cmpN cmpI keq kn narrow callV storeV setp fillV buildV buildSliceV makeV sliceV appendV appendFV slice3V copyV List.isEmpty_nil srcV evO asN ite_t ite_f ite_bool ite_int ite_nat maxV v_beq v_ble v_blt cond_true cond_false List.getElem?_cons_zero List.getElem?_cons_succ List.getD_cons_zero List.getD_cons_succ List.getD_nil List.length_cons List.length_nil List.take_succ_cons List.take_zero List.set_cons_zero List.set_cons_succ List.cons_append List.nil_append List.append_assoc List.replicate_succ List.replicate_zero Nat.zero_add Nat.add_zero decide_true decide_false Bool.true_and Bool.and_true Bool.false_and Bool.and_false Bool.true_or Bool.or_true Bool.false_or Bool.or_false beq_self_eq_true Bool.or_self Nat.lt_irrefl Nat.not_lt_zero Nat.le_refl Option.getD_some Option.getD_none BEq.rfl Bool.not_true Bool.not_false Bool.cond_true_left Bool.cond_false_right prS sndsS i64S nav_ins nav_ins0 nav_ins1 nav_ins2 nav_ins3 nav_ins4 nav_snd nav_snd0 nav_snd1 nav_snd2 isIns_insS insOf_insS isSnd_sndS sndOf_sndS isI_int isI_nat iOf
section
namespace Go.Proofs.YtjliakjbdcplcaaGreat.Vm
open Go.RowKit
set_option linter.unusedVariables false
set_option linter.unusedSimpArgs false
set_option maxRecDepth 100000
set_option maxHeartbeats 4000000
def cPr : FuncId → Option Spec := look2 [(109, sCheck), (110, sIs), (111, sConP)]
theorem cPr_ok : ∀ f S, cPr f = some S → CallOk Tryz.prog f S := allOk_spec ⟨sCheck_ok, sIs_ok, sConP_ok, trivial⟩
theorem pright_lit (p : Prc) (p1 p2 p3 : Nat) (hok : ∀ x ∈ p.P, x.ok) (hn : p.P.length ≤ 1000000) (hc : p.cells.length ≤ 1000000) (hpo : p.ports.length ≤ 1000000) : LitOk Tryz.prog 80 [.agg [.int .i64 p.id, .sl 1 2 [] 5 0 p.P.length (some p1), .sl 3 4 [] 1 0 p.cells.length (some p2), .int .i64 p.draws, .int .i64 p.seq, .sl 5 6 [] 1 0 p.ports.length (some p3)]]
    [.gone, .gone, .ro (.arr p.P.length 5 (prS p.P)), .gone, .ro (.arr p.cells.length 1 (i64S p.cells)), .gone, .ro (.arr p.ports.length 1 (i64S p.ports))] (.bool p.rightB) [.gone] := by
  have hn2 : p.P.length ≤ 281474976710656 := by omega
  have D : (¬ (checkI p.P).2 = 0 ∧ ¬ (checkI p.P).2 = 0 ∧ ¬ (checkI p.P).2 = 0 ∧ ¬ (checkI p.P).2 = 0 ∧ ¬ (checkI p.P).2 = 0 ∧ ¬ (checkI p.P).2 = 0 ∧ ¬ (checkI p.P).2 = 0 ∧ ¬ (checkI p.P).2 = 0) ∨ ((checkI p.P).2 = 0 ∧ isB p.id = false ∧ isB p.id = false ∧ isB p.id = false ∧ isB p.id = false ∧ isB p.id = false ∧ isB p.id = false ∧ isB p.id = false) ∨ ((checkI p.P).2 = 0 ∧ isB p.id = true ∧ ¬ p.cells.length ≤ 1024 ∧ ¬ p.cells.length ≤ 1024 ∧ ¬ p.cells.length ≤ 1024 ∧ ¬ p.cells.length ≤ 1024 ∧ ¬ p.cells.length ≤ 1024 ∧ ¬ p.cells.length ≤ 1024) ∨ ((checkI p.P).2 = 0 ∧ isB p.id = true ∧ p.cells.length ≤ 1024 ∧ ¬ 0 ≤ p.draws ∧ ¬ 0 ≤ p.draws ∧ ¬ 0 ≤ p.draws ∧ ¬ 0 ≤ p.draws ∧ ¬ 0 ≤ p.draws) ∨ ((checkI p.P).2 = 0 ∧ isB p.id = true ∧ p.cells.length ≤ 1024 ∧ 0 ≤ p.draws ∧ ¬ p.draws ≤ 1099511627776 ∧ ¬ p.draws ≤ 1099511627776 ∧ ¬ p.draws ≤ 1099511627776 ∧ ¬ p.draws ≤ 1099511627776) ∨ ((checkI p.P).2 = 0 ∧ isB p.id = true ∧ p.cells.length ≤ 1024 ∧ 0 ≤ p.draws ∧ p.draws ≤ 1099511627776 ∧ ¬ 0 ≤ p.seq ∧ ¬ 0 ≤ p.seq ∧ ¬ 0 ≤ p.seq) ∨ ((checkI p.P).2 = 0 ∧ isB p.id = true ∧ p.cells.length ≤ 1024 ∧ 0 ≤ p.draws ∧ p.draws ≤ 1099511627776 ∧ 0 ≤ p.seq ∧ ¬ p.seq ≤ 4294967296 ∧ ¬ p.seq ≤ 4294967296) ∨ ((checkI p.P).2 = 0 ∧ isB p.id = true ∧ p.cells.length ≤ 1024 ∧ 0 ≤ p.draws ∧ p.draws ≤ 1099511627776 ∧ 0 ≤ p.seq ∧ p.seq ≤ 4294967296 ∧ ¬ p.ports.length ≤ 16) ∨ ((checkI p.P).2 = 0 ∧ isB p.id = true ∧ p.cells.length ≤ 1024 ∧ 0 ≤ p.draws ∧ p.draws ≤ 1099511627776 ∧ 0 ≤ p.seq ∧ p.seq ≤ 4294967296 ∧ p.ports.length ≤ 16) := by
    by_cases q1 : (checkI p.P).2 = 0
    rotate_left 1
    · exact .inl ⟨q1, q1, q1, q1, q1, q1, q1, q1⟩
    by_cases q2 : isB p.id = true
    rotate_left 1
    · have q2 : isB p.id = false := by simpa using q2
      exact .inr (.inl ⟨q1, q2, q2, q2, q2, q2, q2, q2⟩)
    by_cases q3 : p.cells.length ≤ 1024
    rotate_left 1
    · exact .inr (.inr (.inl ⟨q1, q2, q3, q3, q3, q3, q3, q3⟩))
    by_cases q4 : 0 ≤ p.draws
    rotate_left 1
    · exact .inr (.inr (.inr (.inl ⟨q1, q2, q3, q4, q4, q4, q4, q4⟩)))
    by_cases q5 : p.draws ≤ 1099511627776
    rotate_left 1
    · exact .inr (.inr (.inr (.inr (.inl ⟨q1, q2, q3, q4, q5, q5, q5, q5⟩))))
    by_cases q6 : 0 ≤ p.seq
    rotate_left 1
    · exact .inr (.inr (.inr (.inr (.inr (.inl ⟨q1, q2, q3, q4, q5, q6, q6, q6⟩)))))
    by_cases q7 : p.seq ≤ 4294967296
    rotate_left 1
    · exact .inr (.inr (.inr (.inr (.inr (.inr (.inl ⟨q1, q2, q3, q4, q5, q6, q7, q7⟩))))))
    by_cases q8 : p.ports.length ≤ 16
    rotate_left 1
    · exact .inr (.inr (.inr (.inr (.inr (.inr (.inr (.inl ⟨q1, q2, q3, q4, q5, q6, q7, q8⟩)))))))
    exact .inr (.inr (.inr (.inr (.inr (.inr (.inr (.inr ⟨q1, q2, q3, q4, q5, q6, q7, q8⟩)))))))
  rcases D with ⟨q1, q2, q3, q4, q5, q6, q7, q8⟩ | ⟨q1, q2, q3, q4, q5, q6, q7, q8⟩ | ⟨q1, q2, q3, q4, q5, q6, q7, q8⟩ | ⟨q1, q2, q3, q4, q5, q6, q7, q8⟩ | ⟨q1, q2, q3, q4, q5, q6, q7, q8⟩ | ⟨q1, q2, q3, q4, q5, q6, q7, q8⟩ | ⟨q1, q2, q3, q4, q5, q6, q7, q8⟩ | ⟨q1, q2, q3, q4, q5, q6, q7, q8⟩ | ⟨q1, q2, q3, q4, q5, q6, q7, q8⟩
  rotate_left 8
  · have hp2 : p.ports.length ≤ 281474976710656 := by omega
    have e : p.rightB = !(p.ports.any noPort) := by simp [Prc.rightB, q1, q2, q3, q4, q5, q6, q7, q8]
    rw [e]
    refine litOkM (fn := Tryz.f80) 7 56 0 rfl rfl rfl rfl rfl (by simp only [StableL, Stable, hp, i64S, prS, insS, sndsS, sndS, evtsS, evtS]; simp [HB.born]) rfl fun w0 M E hro => ?_
    repeat' (first | refine Ctl.h ?_ | ((with_reducible intro hif); first | (focus (cases hif; done)) | (simp only [JH] at hif; try (exfalso; omega)) | (try (exfalso; omega))) | ((first | ((with_reducible apply J22 cPr_ok tab_ok); (· rfl)) | ((with_reducible apply J23 fol cPr_ok tab_ok); (· rfl)) | with_reducible apply J24); (· exact Vm.b69); (try kernel_rfl); (try exact Vm.b68)) | fail)
    apply At.endsRet tab_ok (fn := Tryz.f80) (rs := [.tmp 2]) Anc.refl hro (Nat.le_of_ble_eq_true rfl) rfl
    · exact Vm.b11
    · exact Vm.b9
    · exact Vm.b6
    · rfl
    · exact Vm.b28
    · exact Vm.b10
    · exact fun β => rfl
    · exact Vm.b28
  all_goals
    have e : p.rightB = false := by simp [Prc.rightB, q1, q2, q3, q4, q5, q6, q7, q8]
    rw [e]
    refine litOkM (fn := Tryz.f80) 7 56 0 rfl rfl rfl rfl rfl (by simp only [StableL, Stable, hp, i64S, prS, insS, sndsS, sndS, evtsS, evtS]; simp [HB.born]) rfl fun w0 M E hro => ?_
    repeat' (first | refine Ctl.h ?_ | ((with_reducible intro hif); first | (focus (cases hif; done)) | (simp only [JH] at hif; try (exfalso; omega)) | (try (exfalso; omega))) | ((first | ((with_reducible apply J22 cPr_ok tab_ok); (· rfl)) | ((with_reducible apply J23 fol cPr_ok tab_ok); (· rfl)) | with_reducible apply J24); (· exact Vm.b69); (try kernel_rfl); (try exact Vm.b68)) | fail)
    apply At.endsRet tab_ok (fn := Tryz.f80) (rs := [.tmp 2]) Anc.refl hro (Nat.le_of_ble_eq_true rfl) rfl
    · exact Vm.b11
    · exact Vm.b9
    · exact Vm.b6
    · rfl
    · exact Vm.b28
    · exact Vm.b10
    · exact fun β => rfl
    · exact Vm.b28
def sPRight : Spec := fun args h m => match args with
  | [.agg [v1, v2, v3, v4, v5, v6]] => match srcV h 5 (.tup []) v2, srcV h 1 (.tup []) v3, srcV h 1 (.tup []) v6 with
    | some (c2, n2, f2, r2), some (c3, n3, f3, r3), some (c6, n6, f6, r6) => bif isI .i64 v1 && isI .i64 v4 && isI .i64 v5 then some (c2 ∧ c3 ∧ c6 ∧ (∀ q, q < n2 → isIns (f2 q) = true) ∧ (∀ q, q < n3 → isI .i64 (f3 q) = true) ∧ (∀ q, q < n6 → isI .i64 (f6 q) = true) ∧ ((∀ x ∈ (ls insOf n2 f2), x.ok)) ∧ (n2 ≤ 1000000) ∧ (n3 ≤ 1000000) ∧ (n6 ≤ 1000000), .bool (Prc.rightB ⟨(iOf v1), (ls insOf n2 f2), (ls iOf n3 f3), (iOf v4), (iOf v5), (ls iOf n6 f6)⟩), r2 ++ r3 ++ r6, []) else none
    | _, _, _ => none
  | _ => none
theorem sPRight_ok : CallOk Tryz.prog 80 sPRight := by
  refine ⟨named_spec (by kernel_rfl), fun args h m c v rd wr hs hm hc w0 M β h' w R hrd hwr hst => ?_⟩
  unfold sPRight at hs
  split at hs
  · rename_i v1 v2 v3 v4 v5 v6
    split at hs
    · rename_i c2 n2 f2 r2 c3 n3 f3 r3 c6 n6 f6 r6 a2 a3 a6
      obtain ⟨hb, hs⟩ := bif_some hs
      simp only [Option.some.injEq, Prod.mk.injEq] at hs
      obtain ⟨rfl, rfl, rfl, rfl⟩ := hs
      simp only [Bool.and_eq_true] at hb
      obtain ⟨⟨b1, b4⟩, b5⟩ := hb
      obtain ⟨k2, k3, k6, g2, g3, g6, y1, y2, y3, y4⟩ := hc
      obtain ⟨A2, p2, d2, e2, t2⟩ := reads_src R a2 k2 (fun i hi => hrd i (List.mem_append_left _ (List.mem_append_left _ hi))) (by omega)
      obtain ⟨A3, p3, d3, e3, t3⟩ := reads_src R a3 k3 (fun i hi => hrd i (List.mem_append_left _ (List.mem_append_right _ hi))) (by omega)
      obtain ⟨A6, p6, d6, e6, t6⟩ := reads_src R a6 k6 (fun i hi => hrd i (List.mem_append_right _ hi)) (by omega)
      refine callRo (views := [⟨5, (ls insOf n2 f2).length, prS (ls insOf n2 f2), A2, p2⟩, ⟨1, (ls iOf n3 f3).length, i64S (ls iOf n3 f3), A3, p3⟩, ⟨1, (ls iOf n6 f6).length, i64S (ls iOf n6 f6), A6, p6⟩]) (pright_lit ⟨(iOf v1), (ls insOf n2 f2), (ls iOf n3 f3), (iOf v4), (iOf v5), (ls iOf n6 f6)⟩ p2 p3 p6 y1 (by rw [ls_length]; exact y2) (by rw [ls_length]; exact y3) (by rw [ls_length]; exact y4)) ?_ R hm hwr ?_ ?_ ?_
      · intro x hx
        simp only [List.mem_cons, List.not_mem_nil, or_false] at hx
        rcases hx with rfl | rfl | rfl
        · exact viewIns t2 e2 g2
        · exact viewI64 t3 e3 g3
        · exact viewI64 t6 e6 g6
      · intro β1 hv
        simp only [Vd, ls_length, and_true] at hv
        obtain ⟨z2, z3, z6⟩ := hv
        simp only [denL, aggDen, intDen, natDen, boolDen, ls_length, z2, z3, z6, d2, d3, d6, isI_den b1, isI_den b4, isI_den b5]
      · exact Vm.b28
      · exact Vm.b28
    · cases hs
  · cases hs
def cPc : FuncId → Option Spec := look2 [(80, sPRight)]
theorem cPc_ok : ∀ f S, cPc f = some S → CallOk Tryz.prog f S := allOk_spec ⟨sPRight_ok, trivial⟩
theorem prc_eta (p : Prc) : Prc.mk p.id p.P p.cells p.draws p.seq p.ports = p := rfl
theorem pcheck_lit (r : Rul) (p : Prc) (p1 p2 p3 : Nat) (hok : ∀ x ∈ p.P, x.ok) (hn : p.P.length ≤ 1000000) (hc : p.cells.length ≤ 1000000) (hpo : p.ports.length ≤ 1000000) : LitOk Tryz.prog 30 [.agg [.int .u64 r.seed, .int .i64 r.ahead, .int .i64 r.fuel], .agg [.int .i64 p.id, .sl 1 2 [] 5 0 p.P.length (some p1), .sl 3 4 [] 1 0 p.cells.length (some p2), .int .i64 p.draws, .int .i64 p.seq, .sl 5 6 [] 1 0 p.ports.length (some p3)]]
    [.gone, .gone, .ro (.arr p.P.length 5 (prS p.P)), .gone, .ro (.arr p.cells.length 1 (i64S p.cells)), .gone, .ro (.arr p.ports.length 1 (i64S p.ports))] (.int .i64 (procE r p)) [.gone] := by
  by_cases q1 : r.ahead < 1
  · have e : procE r p = 280 := by have h : r.rightB = false := decide_eq_false (by omega); unfold procE; rw [if_pos h]
    rw [e]
    refine litOkM (fn := Tryz.f30) 7 28 0 rfl rfl rfl rfl rfl (by simp only [StableL, Stable, hp, i64S, prS, insS, sndsS, sndS, evtsS, evtS]; simp [HB.born]) rfl fun w0 M E hro => ?_
    repeat' (first | refine Ctl.h ?_ | ((with_reducible intro hif); first | (focus (cases hif; done)) | (simp only [JH] at hif; try (exfalso; omega)) | (try (exfalso; omega))) | ((first | ((with_reducible apply J22 cPc_ok tab_ok); (· rfl)) | ((with_reducible apply J23 fol cPc_ok tab_ok); (· rfl)) | with_reducible apply J24); (· (simp only [push_cast, ↓JP, Nat.reduceAdd, Nat.reduceEqDiff, Nat.reduceLT, Nat.reduceMul, Nat.reduceLeDiff, reduceCtorEq, reduceIte, ↓JK, JE, prc_eta, cPc, sPRight, inR, inN, q1]; rfl)); (try kernel_rfl); (try exact Vm.b70)) | fail)
    apply At.endsRet tab_ok (fn := Tryz.f30) (rs := [.tmp 4]) Anc.refl hro (Nat.le_of_ble_eq_true rfl) rfl
    · exact Vm.b11
    · exact Vm.b9
    · exact Vm.b6
    · rfl
    · exact Vm.b28
    · exact Vm.b10
    · exact fun β => rfl
    · exact Vm.b28
  · skip
    by_cases q2 : 1048576 < r.ahead
    · have e : procE r p = 280 := by have h : r.rightB = false := decide_eq_false (by omega); unfold procE; rw [if_pos h]
      rw [e]
      refine litOkM (fn := Tryz.f30) 7 28 0 rfl rfl rfl rfl rfl (by simp only [StableL, Stable, hp, i64S, prS, insS, sndsS, sndS, evtsS, evtS]; simp [HB.born]) rfl fun w0 M E hro => ?_
      repeat' (first | refine Ctl.h ?_ | ((with_reducible intro hif); first | (focus (cases hif; done)) | (simp only [JH] at hif; try (exfalso; omega)) | (try (exfalso; omega))) | ((first | ((with_reducible apply J22 cPc_ok tab_ok); (· rfl)) | ((with_reducible apply J23 fol cPc_ok tab_ok); (· rfl)) | with_reducible apply J24); (· (simp only [push_cast, ↓JP, Nat.reduceAdd, Nat.reduceEqDiff, Nat.reduceLT, Nat.reduceMul, Nat.reduceLeDiff, reduceCtorEq, reduceIte, ↓JK, JE, prc_eta, cPc, sPRight, inR, inN, q1, q2]; rfl)); (try kernel_rfl); (try exact Vm.b70)) | fail)
      apply At.endsRet tab_ok (fn := Tryz.f30) (rs := [.tmp 4]) Anc.refl hro (Nat.le_of_ble_eq_true rfl) rfl
      · exact Vm.b11
      · exact Vm.b9
      · exact Vm.b6
      · rfl
      · exact Vm.b28
      · exact Vm.b10
      · exact fun β => rfl
      · exact Vm.b28
    · skip
      by_cases q3 : r.fuel < 0
      · have e : procE r p = 280 := by have h : r.rightB = false := decide_eq_false (by omega); unfold procE; rw [if_pos h]
        rw [e]
        refine litOkM (fn := Tryz.f30) 7 28 0 rfl rfl rfl rfl rfl (by simp only [StableL, Stable, hp, i64S, prS, insS, sndsS, sndS, evtsS, evtS]; simp [HB.born]) rfl fun w0 M E hro => ?_
        repeat' (first | refine Ctl.h ?_ | ((with_reducible intro hif); first | (focus (cases hif; done)) | (simp only [JH] at hif; try (exfalso; omega)) | (try (exfalso; omega))) | ((first | ((with_reducible apply J22 cPc_ok tab_ok); (· rfl)) | ((with_reducible apply J23 fol cPc_ok tab_ok); (· rfl)) | with_reducible apply J24); (· (simp only [push_cast, ↓JP, Nat.reduceAdd, Nat.reduceEqDiff, Nat.reduceLT, Nat.reduceMul, Nat.reduceLeDiff, reduceCtorEq, reduceIte, ↓JK, JE, prc_eta, cPc, sPRight, inR, inN, q1, q2, q3]; rfl)); (try kernel_rfl); (try exact Vm.b70)) | fail)
        apply At.endsRet tab_ok (fn := Tryz.f30) (rs := [.tmp 4]) Anc.refl hro (Nat.le_of_ble_eq_true rfl) rfl
        · exact Vm.b11
        · exact Vm.b9
        · exact Vm.b6
        · rfl
        · exact Vm.b28
        · exact Vm.b10
        · exact fun β => rfl
        · exact Vm.b28
      · skip
        by_cases q4 : 4096 < r.fuel
        · have e : procE r p = 280 := by have h : r.rightB = false := decide_eq_false (by omega); unfold procE; rw [if_pos h]
          rw [e]
          refine litOkM (fn := Tryz.f30) 7 28 0 rfl rfl rfl rfl rfl (by simp only [StableL, Stable, hp, i64S, prS, insS, sndsS, sndS, evtsS, evtS]; simp [HB.born]) rfl fun w0 M E hro => ?_
          repeat' (first | refine Ctl.h ?_ | ((with_reducible intro hif); first | (focus (cases hif; done)) | (simp only [JH] at hif; try (exfalso; omega)) | (try (exfalso; omega))) | ((first | ((with_reducible apply J22 cPc_ok tab_ok); (· rfl)) | ((with_reducible apply J23 fol cPc_ok tab_ok); (· rfl)) | with_reducible apply J24); (· (simp only [push_cast, ↓JP, Nat.reduceAdd, Nat.reduceEqDiff, Nat.reduceLT, Nat.reduceMul, Nat.reduceLeDiff, reduceCtorEq, reduceIte, ↓JK, JE, prc_eta, cPc, sPRight, inR, inN, q1, q2, q3, q4]; rfl)); (try kernel_rfl); (try exact Vm.b70)) | fail)
          apply At.endsRet tab_ok (fn := Tryz.f30) (rs := [.tmp 4]) Anc.refl hro (Nat.le_of_ble_eq_true rfl) rfl
          · exact Vm.b11
          · exact Vm.b9
          · exact Vm.b6
          · rfl
          · exact Vm.b28
          · exact Vm.b10
          · exact fun β => rfl
          · exact Vm.b28
        · skip
          have er : r.rightB = true := decide_eq_true ⟨by omega, by omega, by omega, by omega⟩
          cases hr : p.rightB
          · have e : procE r p = 281 := by unfold procE; simp [er, hr]
            rw [e]
            refine litOkM (fn := Tryz.f30) 7 28 0 rfl rfl rfl rfl rfl (by simp only [StableL, Stable, hp, i64S, prS, insS, sndsS, sndS, evtsS, evtS]; simp [HB.born]) rfl fun w0 M E hro => ?_
            repeat' (first | refine Ctl.h ?_ | ((with_reducible intro hif); first | (focus (cases hif; done)) | (simp only [JH] at hif; try (exfalso; omega)) | (try (exfalso; omega))) | ((first | ((with_reducible apply J22 cPc_ok tab_ok); (· rfl)) | ((with_reducible apply J23 fol cPc_ok tab_ok); (· rfl)) | with_reducible apply J24); (· exact Vm.b71); (try kernel_rfl); (try exact Vm.b70)) | fail)
            apply At.endsRet tab_ok (fn := Tryz.f30) (rs := [.tmp 4]) Anc.refl hro (Nat.le_of_ble_eq_true rfl) rfl
            · exact Vm.b11
            · exact Vm.b9
            · exact Vm.b6
            · rfl
            · exact Vm.b28
            · exact Vm.b10
            · exact fun β => rfl
            · exact Vm.b28
          · have e : procE r p = 0 := by unfold procE; simp [er, hr]
            rw [e]
            refine litOkM (fn := Tryz.f30) 7 28 0 rfl rfl rfl rfl rfl (by simp only [StableL, Stable, hp, i64S, prS, insS, sndsS, sndS, evtsS, evtS]; simp [HB.born]) rfl fun w0 M E hro => ?_
            repeat' (first | refine Ctl.h ?_ | ((with_reducible intro hif); first | (focus (cases hif; done)) | (simp only [JH] at hif; try (exfalso; omega)) | (try (exfalso; omega))) | ((first | ((with_reducible apply J22 cPc_ok tab_ok); (· rfl)) | ((with_reducible apply J23 fol cPc_ok tab_ok); (· rfl)) | with_reducible apply J24); (· exact Vm.b71); (try kernel_rfl); (try exact Vm.b70)) | fail)
            apply At.endsRet tab_ok (fn := Tryz.f30) (rs := [.tmp 4]) Anc.refl hro (Nat.le_of_ble_eq_true rfl) rfl
            · exact Vm.b11
            · exact Vm.b9
            · exact Vm.b6
            · rfl
            · exact Vm.b28
            · exact Vm.b10
            · exact fun β => rfl
            · exact Vm.b28
def sPCheck : Spec := fun args h m => match args with
  | [.agg [v1, v2, v3], .agg [v4, v5, v6, v7, v8, v9]] => match srcV h 5 (.tup []) v5, srcV h 1 (.tup []) v6, srcV h 1 (.tup []) v9 with
    | some (c5, n5, f5, r5), some (c6, n6, f6, r6), some (c9, n9, f9, r9) => bif isI .u64 v1 && isI .i64 v2 && isI .i64 v3 && isI .i64 v4 && isI .i64 v7 && isI .i64 v8 then some (c5 ∧ c6 ∧ c9 ∧ (∀ q, q < n5 → isIns (f5 q) = true) ∧ (∀ q, q < n6 → isI .i64 (f6 q) = true) ∧ (∀ q, q < n9 → isI .i64 (f9 q) = true) ∧ ((∀ x ∈ (ls insOf n5 f5), x.ok)) ∧ (n5 ≤ 1000000) ∧ (n6 ≤ 1000000) ∧ (n9 ≤ 1000000), .int .i64 (procE ⟨(iOf v1), (iOf v2), (iOf v3)⟩ ⟨(iOf v4), (ls insOf n5 f5), (ls iOf n6 f6), (iOf v7), (iOf v8), (ls iOf n9 f9)⟩), r5 ++ r6 ++ r9, []) else none
    | _, _, _ => none
  | _ => none
theorem sPCheck_ok : CallOk Tryz.prog 30 sPCheck := by
  refine ⟨named_spec (by kernel_rfl), fun args h m c v rd wr hs hm hc w0 M β h' w R hrd hwr hst => ?_⟩
  unfold sPCheck at hs
  split at hs
  · rename_i v1 v2 v3 v4 v5 v6 v7 v8 v9
    split at hs
    · rename_i c5 n5 f5 r5 c6 n6 f6 r6 c9 n9 f9 r9 a5 a6 a9
      obtain ⟨hb, hs⟩ := bif_some hs
      simp only [Option.some.injEq, Prod.mk.injEq] at hs
      obtain ⟨rfl, rfl, rfl, rfl⟩ := hs
      simp only [Bool.and_eq_true] at hb
      obtain ⟨⟨⟨⟨⟨b1, b2⟩, b3⟩, b4⟩, b7⟩, b8⟩ := hb
      obtain ⟨k5, k6, k9, g5, g6, g9, y1, y2, y3, y4⟩ := hc
      obtain ⟨A5, p5, d5, e5, t5⟩ := reads_src R a5 k5 (fun i hi => hrd i (List.mem_append_left _ (List.mem_append_left _ hi))) (by omega)
      obtain ⟨A6, p6, d6, e6, t6⟩ := reads_src R a6 k6 (fun i hi => hrd i (List.mem_append_left _ (List.mem_append_right _ hi))) (by omega)
      obtain ⟨A9, p9, d9, e9, t9⟩ := reads_src R a9 k9 (fun i hi => hrd i (List.mem_append_right _ hi)) (by omega)
      refine callRo (views := [⟨5, (ls insOf n5 f5).length, prS (ls insOf n5 f5), A5, p5⟩, ⟨1, (ls iOf n6 f6).length, i64S (ls iOf n6 f6), A6, p6⟩, ⟨1, (ls iOf n9 f9).length, i64S (ls iOf n9 f9), A9, p9⟩]) (pcheck_lit ⟨(iOf v1), (iOf v2), (iOf v3)⟩ ⟨(iOf v4), (ls insOf n5 f5), (ls iOf n6 f6), (iOf v7), (iOf v8), (ls iOf n9 f9)⟩ p5 p6 p9 y1 (by rw [ls_length]; exact y2) (by rw [ls_length]; exact y3) (by rw [ls_length]; exact y4)) ?_ R hm hwr ?_ ?_ ?_
      · intro x hx
        simp only [List.mem_cons, List.not_mem_nil, or_false] at hx
        rcases hx with rfl | rfl | rfl
        · exact viewIns t5 e5 g5
        · exact viewI64 t6 e6 g6
        · exact viewI64 t9 e9 g9
      · intro β1 hv
        simp only [Vd, ls_length, and_true] at hv
        obtain ⟨z5, z6, z9⟩ := hv
        simp only [denL, aggDen, intDen, natDen, boolDen, ls_length, z5, z6, z9, d5, d6, d9, isI_den b1, isI_den b2, isI_den b3, isI_den b4, isI_den b7, isI_den b8]
      · exact Vm.b28
      · exact Vm.b28
    · cases hs
  · cases hs
end Go.Proofs.YtjliakjbdcplcaaGreat.Vm
end

section
namespace Go.Proofs.YtjliakjbdcplcaaGreat.Vm
open Go.RowKit
set_option linter.unusedVariables false
set_option linter.unusedSimpArgs false
set_option maxRecDepth 100000
def PickF (σ : Nat → Nat) (φ : Fr) : Fr → Prop
  | [] => True
  | p :: l => (∃ u, look φ p.1 = some u ∧ ∀ β, u.den β = (p.2.ren σ).den β) ∧ PickF σ φ l
theorem pickF_spec {σ : Nat → Nat} {φ : Fr} : ∀ {φ2 : Fr}, PickF σ φ φ2 → ∀ p ∈ φ2, ∃ u, look φ p.1 = some u ∧ ∀ β, u.den β = (p.2.ren σ).den β
  | [], _, p, hp => by cases hp
  | q :: l, h, p, hp => by
    rcases List.mem_cons.1 hp with rfl | hp
    · exact h.1
    · exact pickF_spec h.2 p hp
section
variable {w0 : World} {M : Nat → Prop} {E : Env} {n0 N : Nat} {D : List Deferred} {φ φ2 : Fr} {L L2 : List HB}
theorem St.pick {a : Act} {w : World} (l : List Nat) (h : St w0 M E n0 N D φ L a w) (h00 : l.getD 0 0 = 0) (hz : hp L2 0 = .gone) (hid : idTo n0 l = true) (hpk : PickL (sg l) (hp L) L2 l) (hinj : injL L2 l [] = true) (hs : StableH (hp L2) L2) (hφ : PickF (sg l) φ φ2) (hf : StableF (hp L2) φ2) (hb : bornTo n0 L2 = true) : St w0 M E n0 N D φ2 L2 a w := by
  obtain ⟨⟨β, hE, R, F⟩, _, h3, h4⟩ := h
  refine ⟨⟨fun i => β (sg l i), fun i hi => ?_, R.pick h00 hz hpk hinj hs, fun t v hv => ?_⟩, fun i hi => ?_, h3, h4⟩
  · simp only [idTo, List.all_eq_true] at hid
    have e := Nat.eq_of_beq_eq_true (hid i (List.mem_range.2 hi))
    show β (l.getD i 0) = E i
    rw [e]; exact hE i hi
  · have hm := look_mem hv
    obtain ⟨u, h1, h2⟩ := pickF_spec hφ _ hm
    have hst := stableF_spec hf _ hm
    refine ⟨hst, ?_⟩
    rw [(F t u h1).2, h2]
    exact den_ren (h := hp L2) (fun _ _ => rfl) hst
  · simp only [bornTo, List.all_eq_true] at hb
    exact hb i (List.mem_range.2 hi)
theorem At.nextPick {α : Type} {p : α → Prop} {φi : α → Fr} {Li : α → List HB} (l : List Nat) (y : α) (hy : p y) (h00 : l.getD 0 0 = 0) (hz : hp (Li y) 0 = .gone) (hid : idTo n0 l = true) (hpk : PickL (sg l) (hp L) (Li y) l) (hinj : injL (Li y) l [] = true) (hs : StableH (hp (Li y)) (Li y)) (hφ : PickF (sg l) φ (φi y)) (hf : StableF (hp (Li y)) (φi y)) (hb : bornTo n0 (Li y) = true) : At w0 M E n0 N D φ L (fun a w => ∃ y, p y ∧ St w0 M E n0 N D (φi y) (Li y) a w) :=
  fun a w hS => ⟨y, hy, hS.pick l h00 hz hid hpk hinj hs hφ hf hb⟩
theorem At.pick {K : Act → World → Prop} (l : List Nat) (h00 : l.getD 0 0 = 0) (hz : hp L2 0 = .gone) (hid : idTo n0 l = true) (hpk : PickL (sg l) (hp L) L2 l) (hinj : injL L2 l [] = true) (hs : StableH (hp L2) L2) (hφ : PickF (sg l) φ φ2) (hf : StableF (hp L2) φ2) (hb : bornTo n0 L2 = true) (h : At w0 M E n0 N D φ2 L2 K) : At w0 M E n0 N D φ L K :=
  fun a w hS => h a w (hS.pick l h00 hz hid hpk hinj hs hφ hf hb)
end
end Go.Proofs.YtjliakjbdcplcaaGreat.Vm
end

section
namespace Go.Proofs.YtjliakjbdcplcaaGreat.Vm
open Go.RowKit
set_option linter.unusedVariables false
set_option linter.unusedSimpArgs false
set_option maxRecDepth 100000
set_option maxHeartbeats 4000000
def fldS (b : Nat) : Nat → SV := fun i => [SV.agg [.ptr b [.f 0 0], .nat .i64 281474976710656, .nat .i64 7, .str { data := #[] }], SV.agg [.ptr b [.f 1 1], .nat .i64 16, .nat .i64 1, .str { data := #[64] }], SV.agg [.ptr b [.f 2 2], .nat .i64 4294967295, .nat .i64 4, .str { data := #[35] }]].getD i (SV.agg [.nilp, .nat .i64 0, .nat .i64 0, .str { data := #[] }])
theorem fldS_st {h : HM} {b i : Nat} : Stable h (fldS b i) ↔ ((h b).born = true ∨ 3 ≤ i) := by
  rcases i with _ | _ | _ | i <;> simp [fldS, Stable, StableL]
def pkB (b : Nat) : HB := .own 165 (.ptr b []) true
theorem fields_lit : LitOk Tryz.prog 78 [.ptr 1 []] [.gone, .gone] (.fn 108 [.ptr 2 []]) [.gone, .gone, pkB 1] := by
  refine litOkM (fn := Tryz.f78) 2 4 0 rfl rfl rfl rfl rfl (by simp only [StableL, Stable, hp, fldS_st, hp, List.getD_cons_succ, List.getD_cons_zero, HB.born, true_or, i64S, prS, insS, sndsS, sndS, evtsS, evtS]; simp [HB.born]) rfl fun w0 M E hro => ?_
  repeat' (first | refine Ctl.h ?_ | ((with_reducible intro hif); first | (focus (cases hif; done)) | (simp only [JH] at hif; try (exfalso; omega)) | (try (exfalso; omega))) | ((first | ((with_reducible apply J22 c1_ok tab_ok); (· rfl)) | ((with_reducible apply J23 fol c1_ok tab_ok); (· rfl)) | with_reducible apply J24); (· exact Vm.b37); (try kernel_rfl); (try exact Vm.b14)) | fail)
  apply At.endsPick [0, 1, 2] tab_ok (fn := Tryz.f78) (rs := [.tmp 2]) Anc.refl hro (Nat.le_of_ble_eq_true rfl) rfl
  · exact Vm.b11
  · exact Vm.b26
  · rfl
  · rfl
  · rfl
  · exact Vm.b40
  · rfl
  · exact Vm.b57
  · exact Vm.b10
  · exact fun β => rfl
  · exact Vm.b57
def rFl : Spec := fun args h m => match args with
  | [.ptr e []] => bif (h e).born && nodupN [0, e] then some (True, .fn 108 [.ptr m []], [e], [(m, pkB e)]) else none
  | _ => none
theorem rFl_ok : CallOk Tryz.prog 78 rFl := by
  refine ⟨named_spec (by kernel_rfl), fun args h m c v rd wr hs hm hc w0 M β h' w R hrd hwr hst => ?_⟩
  unfold rFl at hs
  split at hs
  · rename_i e
    obtain ⟨hb, hs⟩ := bif_some hs
    simp only [Option.some.injEq, Prod.mk.injEq] at hs
    obtain ⟨rfl, rfl, rfl, rfl⟩ := hs
    simp only [Bool.and_eq_true] at hb
    obtain ⟨b1, hnd⟩ := hb
    have e1 : rhoL [0, e] m 2 = m := by simp [rhoL]
    exact bun_ok (h := h) (m := m) [0, e] fields_lit R rfl (by simp) rfl rfl hnd
      ⟨Fit.gone (by rw [R.nil0]; rfl), Fit.gone (by rw [hrd e (by simp)]; exact b1), trivial⟩ hm
      (fun p hp => by
        simp only [newB, List.drop, List.length_cons, List.length_nil, List.mem_cons, List.not_mem_nil, or_false] at hp
        subst hp
        exact hwr (m, pkB e) (by simp)) (by simp) rfl
      ⟨trivial, trivial, trivial⟩ ⟨rfl, trivial⟩ ⟨trivial, trivial, by simp [pkB, HB.stable, Stable, hp, mrgL, HB.born], trivial⟩ (by simp [Stable, StableL, hp, mrgL, HB.born, pkB]) rfl
      (by simp only [SV.ren, renL, e1]) (by
        show [(m, (pkB 1).ren _)] = _
        rfl)
  · cases hs
def cFl : FuncId → Option Spec := look2 [(78, rFl)]
theorem cFl_ok : ∀ f S, cFl f = some S → CallOk Tryz.prog f S := allOk_spec ⟨rFl_ok, trivial⟩
theorem kright_lit (t s q : Int) : LitOk Tryz.prog 26 [.agg [.int .i64 t, .int .i64 s, .int .i64 q]] [.gone] (.bool (keyB t s q)) [.gone] := by
  refine litOkM (fn := Tryz.f26) 1 20 0 rfl rfl rfl rfl rfl (by simp only [StableL, Stable, hp, fldS_st, hp, List.getD_cons_succ, List.getD_cons_zero, HB.born, true_or, i64S, prS, insS, sndsS, sndS, evtsS, evtS]; simp [HB.born]) rfl fun w0 M E hro => ?_
  repeat' (first | refine Ctl.h ?_ | ((with_reducible intro hif); first | (focus (cases hif; done)) | (simp only [JH] at hif; try (exfalso; omega)) | (try (exfalso; omega))) | ((first | ((with_reducible apply J22 cFl_ok tab_ok); (· rfl)) | ((with_reducible apply J23 fol cFl_ok tab_ok); (· rfl)) | with_reducible apply J24); (· exact Vm.b72); (try kernel_rfl); (try exact Vm.b14)) | fail)
  with_reducible apply WF.range (fn' := Tryz.f108) 28
  · exact Vm.b58
  · exact Vm.b26
  · rfl
  · rfl
  · rfl
  · rfl
  · rfl
  · rfl
  · rfl
  intro E1 rec tmps after hE1 hrec hcf haft
  repeat' (first | refine Ctl.h ?_ | ((with_reducible intro hif); first | (focus (cases hif; done)) | (simp only [JH] at hif; try (exfalso; omega)) | (try (exfalso; omega))) | ((first | ((with_reducible apply J22 cFl_ok tab_ok); (· rfl)) | ((with_reducible apply J23 fol cFl_ok tab_ok); (· rfl)) | with_reducible apply J24); (· exact Vm.b72); (try kernel_rfl); (try exact Vm.b14)) | fail)
  refine WF.loopAt (fun (j : Nat) => j ≤ 3 ∧ (0 < j → 0 ≤ t ∧ t ≤ 281474976710656) ∧ (1 < j → 0 ≤ s ∧ s ≤ 16) ∧ (2 < j → 0 ≤ q ∧ q ≤ 4294967295)) (fun (j : Nat) => [(0, .yl 5), (1, .ptr 3 []), (17, .sl 6 6 [] 4 0 3 none), (18, .nat .i64 3), (19, .nat .i64 j)]) (fun (j : Nat) => [.gone, .own 27 (.agg [.int .i64 t, .int .i64 s, .int .i64 q]) true, .own 4 (.bool false) true, .own 165 (.ptr 1 []) true, .raw (.deferred (some [])), .raw (.loop (rec .ready none)), .own 168 (.arr 3 4 (fldS 1)) true]) (fun (j : Nat) => 3 - j) 0 (by omega) ?_ ?_ rfl ?_ ?_ rfl ?_
  · exact Vm.b5
  · exact Vm.b6
  · exact Vm.b57
  · exact Vm.b57
  rintro j ⟨hj, k0, k1, k2⟩
  have hj4 : j = 0 ∨ j = 1 ∨ j = 2 ∨ j = 3 := by omega
  have c3 : ∀ x m : Int, (x < 0 ∧ x < 0) ∨ (¬ x < 0 ∧ m < x) ∨ (¬ x < 0 ∧ ¬ m < x) := fun x m => by omega
  rcases hj4 with rfl | rfl | rfl | rfl
  rotate_left 3
  · have hv : keyB t s q = true := decide_eq_true (by omega)
    repeat' (first | refine Ctl.h ?_ | ((with_reducible intro hif); first | (focus (cases hif; done)) | (simp only [JH] at hif; try (exfalso; omega)) | (try (exfalso; omega))) | ((first | ((with_reducible apply J22 cFl_ok tab_ok); (· rfl)) | ((with_reducible apply J23 fol cFl_ok tab_ok); (· rfl)) | with_reducible apply J24); (· exact Vm.b72); (try kernel_rfl); (try exact Vm.b14)) | fail)
    with_reducible apply At.itNormal .ready
    · rfl
    · rfl
    · intro h; cases h
    apply haft
    intro w1 M1 D1 hA
    dsimp only
    repeat' (first | refine Ctl.h ?_ | ((with_reducible intro hif); first | (focus (cases hif; done)) | (simp only [JH] at hif; try (exfalso; omega)) | (try (exfalso; omega))) | ((first | ((with_reducible apply J22 cFl_ok tab_ok); (· rfl)) | ((with_reducible apply J23 fol cFl_ok tab_ok); (· rfl)) | with_reducible apply J24); (· exact Vm.b72); (try kernel_rfl); (try exact Vm.b14)) | fail)
    apply At.endsRet tab_ok (fn := Tryz.f26) (rs := [.cell 2 4]) hA hro (Nat.le_of_ble_eq_true rfl) rfl
    · exact Vm.b11
    · exact Vm.b9
    · exact Vm.b6
    · rfl
    · exact Vm.b57
    · exact Vm.b10
    · rw [hv]; exact fun β => rfl
    · exact Vm.b57
  rcases c3 t 281474976710656 with ⟨h1, h2⟩ | ⟨h1, h2⟩ | ⟨h1, h2⟩
  rotate_left 3
  rcases c3 s 16 with ⟨h1, h2⟩ | ⟨h1, h2⟩ | ⟨h1, h2⟩
  rotate_left 3
  rcases c3 q 4294967295 with ⟨h1, h2⟩ | ⟨h1, h2⟩ | ⟨h1, h2⟩
  all_goals
    repeat' (first | refine Ctl.h ?_ | ((with_reducible intro hif); first | (focus (cases hif; done)) | (simp only [JH] at hif; try (exfalso; omega)) | (try (exfalso; omega))) | ((first | ((with_reducible apply J22 cFl_ok tab_ok); (· rfl)) | ((with_reducible apply J23 fol cFl_ok tab_ok); (· rfl)) | with_reducible apply J24); (· exact Vm.b73); (try kernel_rfl); (try exact Vm.b14)) | fail)
    with_reducible apply WF.split 2 1
    · rfl
    with_reducible apply At.run cFl_ok tab_ok
    · rfl
    · rfl
    · rfl
    · exact Vm.b59
    · exact Vm.b60
    with_reducible apply At.yield (gr := _)
    · rfl
    · rfl
    · rfl
    · rfl
    · rfl
    · rfl
    · exact Vm.b59
    · exact Vm.b61
    · exact Vm.b59
    · exact Vm.b60
    · exact Vm.b59
    · exact Vm.b60
    · exact Vm.b61
    · exact hrec
    · exact hcf
    · rfl
    · rfl
    · rfl
    intro lb E2 next hE2 hnext
    repeat' (first | refine Ctl.h ?_ | ((with_reducible intro hif); first | (focus (cases hif; done)) | (simp only [JH] at hif; try (exfalso; omega)) | (try (exfalso; omega))) | ((first | ((with_reducible apply J22 cFl_ok tab_ok); (· rfl)) | ((with_reducible apply J23 fol cFl_ok tab_ok); (· rfl)) | with_reducible apply J24); (· exact Vm.b73); (try kernel_rfl); (try exact Vm.b14)) | fail)
    with_reducible apply At.begins hrec
    · rfl
    with_reducible refine At.code ?_
    repeat' (first | refine Ctl.h ?_ | ((with_reducible intro hif); first | (focus (cases hif; done)) | (simp only [JH] at hif; try (exfalso; omega)) | (try (exfalso; omega))) | ((first | ((with_reducible apply J22 cFl_ok tab_ok); (· rfl)) | ((with_reducible apply J23 fol cFl_ok tab_ok); (· rfl)) | with_reducible apply J24); (· exact Vm.b73); (try kernel_rfl); (try exact Vm.b14)) | fail)
    first
    | skip
      have hv : keyB t s q = false := decide_eq_false (by omega)
      with_reducible apply At.roundRet
      · exact Vm.b61
      apply hnext
      with_reducible apply At.runEnd cFl_ok tab_ok
      · rfl
      · rfl
      · rfl
      · exact Vm.b59
      · exact Vm.b60
      repeat' (first | refine Ctl.h ?_ | ((with_reducible intro hif); first | (focus (cases hif; done)) | (simp only [JH] at hif; try (exfalso; omega)) | (try (exfalso; omega))) | ((first | ((with_reducible apply J22 cFl_ok tab_ok); (· rfl)) | ((with_reducible apply J23 fol cFl_ok tab_ok); (· rfl)) | with_reducible apply J24); (· exact Vm.b73); (try kernel_rfl); (try exact Vm.b14)) | fail)
      with_reducible apply At.itRet .done
      · rfl
      · rfl
      · intro h; cases h
      apply haft
      intro w1 M1 D1 hA
      dsimp only
      repeat' (first | refine Ctl.h ?_ | ((with_reducible intro hif); first | (focus (cases hif; done)) | (simp only [JH] at hif; try (exfalso; omega)) | (try (exfalso; omega))) | ((first | ((with_reducible apply J22 cFl_ok tab_ok); (· rfl)) | ((with_reducible apply J23 fol cFl_ok tab_ok); (· rfl)) | with_reducible apply J24); (· exact Vm.b73); (try kernel_rfl); (try exact Vm.b14)) | fail)
      apply At.endsRet tab_ok (fn := Tryz.f26) (rs := [.cell 2 4]) hA hro (Nat.le_of_ble_eq_true rfl) rfl
      · exact Vm.b11
      · exact Vm.b9
      · exact Vm.b6
      · rfl
      · exact Vm.b57
      · exact Vm.b10
      · rw [hv]; exact fun β => rfl
      · exact Vm.b57
    | skip
      with_reducible apply At.roundNormal
      · exact Vm.b61
      apply hnext
      with_reducible apply At.runEnd cFl_ok tab_ok
      · rfl
      · rfl
      · rfl
      · exact Vm.b59
      · exact Vm.b60
      repeat' (first | refine Ctl.h ?_ | ((with_reducible intro hif); first | (focus (cases hif; done)) | (simp only [JH] at hif; try (exfalso; omega)) | (try (exfalso; omega))) | ((first | ((with_reducible apply J22 cFl_ok tab_ok); (· rfl)) | ((with_reducible apply J23 fol cFl_ok tab_ok); (· rfl)) | with_reducible apply J24); (· exact Vm.b73); (try kernel_rfl); (try exact Vm.b14)) | fail)
      first
      | skip
        refine At.next 1 ?_ ?_ ?_ rfl ?_ ?_ rfl
        · omega
        · exact Vm.b5
        · exact Vm.b6
        · exact Vm.b57
        · exact Vm.b57
      | skip
        refine At.next 2 ?_ ?_ ?_ rfl ?_ ?_ rfl
        · omega
        · exact Vm.b5
        · exact Vm.b6
        · exact Vm.b57
        · exact Vm.b57
      | skip
        refine At.next 3 ?_ ?_ ?_ rfl ?_ ?_ rfl
        · omega
        · exact Vm.b5
        · exact Vm.b6
        · exact Vm.b57
        · exact Vm.b57
def sKRight : Spec := fun args h m => match args with
  | [.agg [v1, v2, v3]] => bif isI .i64 v1 && isI .i64 v2 && isI .i64 v3 then some (True, .bool (keyB (iOf v1) (iOf v2) (iOf v3)), [], []) else none
  | _ => none
theorem sKRight_ok : CallOk Tryz.prog 26 sKRight := by
  refine ⟨named_spec (by kernel_rfl), fun args h m c v rd wr hs hm hc w0 M β h' w R hrd hwr hst => ?_⟩
  unfold sKRight at hs
  split at hs
  · rename_i v1 v2 v3
    obtain ⟨hb, hs⟩ := bif_some hs
    simp only [Option.some.injEq, Prod.mk.injEq] at hs
    obtain ⟨rfl, rfl, rfl, rfl⟩ := hs
    simp only [Bool.and_eq_true] at hb
    obtain ⟨⟨b1, b2⟩, b3⟩ := hb
    refine callRo (views := []) (kright_lit (iOf v1) (iOf v2) (iOf v3)) ?_ R hm hwr ?_ ?_ ?_
    · intro x hx; cases hx
    · intro β1 hv
      simp only [denL, aggDen, intDen, natDen, boolDen, ls_length, isI_den b1, isI_den b2, isI_den b3]
    · exact Vm.b57
    · exact Vm.b57
  · cases hs
end Go.Proofs.YtjliakjbdcplcaaGreat.Vm
end

section
namespace Go.Proofs.YtjliakjbdcplcaaGreat.Vm
open Go.RowKit
set_option linter.unusedVariables false
set_option linter.unusedSimpArgs false
set_option maxRecDepth 100000
set_option maxHeartbeats 4000000
theorem fldS_ren (σ : Nat → Nat) (b : Nat) : (fun q => (fldS b q).ren σ) = fldS (σ b) := by
  funext q
  rcases q with _ | _ | _ | q <;> rfl
theorem less_fld {t n b : Nat} {ex : Bool} {σ : Nat → Nat} {g : Nat → SV} (hb : σ b = b) (hg : ∀ q, q < n → ∀ β, (g q).cl β = (fldS b q).cl β) : Less (.own t (.arr n 4 g) ex) ((HB.own t (.arr n 4 (fldS b)) ex).ren σ) := by
  have e : (HB.own t (.arr n 4 (fldS b)) ex).ren σ = .own t (.arr n 4 (fldS b)) ex := by
    simp only [HB.ren, SV.ren]
    rw [fldS_ren, hb]
  rw [e]
  exact .val (fun β => arrCl fun q hq => hg q hq β) (fun n1 k1 f1 e => by injection e with e1 e2 e3; subst e1 e2; exact ⟨_, rfl⟩) (fun n1 k1 f1 e => by injection e with e1 e2 e3; subst e1 e2; exact ⟨_, rfl⟩)
theorem apsF_lit : LitOk Tryz.prog 132 [.sl 0 0 [] 0 0 0 (some 0), .fn 108 [.ptr 2 []]] [.gone, .gone, pkB 1] (.sl 3 3 [] 4 0 3 none) [.gone, .gone, pkB 1, .own 168 (.arr 3 4 (fldS 1)) false] := by
  refine litOkM (fn := Tryz.f132) 3 13 0 rfl rfl rfl rfl rfl (by simp only [StableL, Stable, hp, fldS_st, hp, List.getD_cons_succ, List.getD_cons_zero, HB.born, true_or, pkB, HB.stable, i64S, prS, insS, sndsS, sndS, evtsS, evtS]; simp [HB.born]) rfl fun w0 M E hro => ?_
  repeat' (first | refine Ctl.h ?_ | ((with_reducible intro hif); first | (focus (cases hif; done)) | (simp only [JH] at hif; try (exfalso; omega)) | (try (exfalso; omega))) | ((first | ((with_reducible apply J22 c1_ok tab_ok); (· rfl)) | ((with_reducible apply J23 fol c1_ok tab_ok); (· rfl)) | with_reducible apply J24); (· exact Vm.b72); (try kernel_rfl); (try exact Vm.b14)) | fail)
  with_reducible apply WF.range (fn' := Tryz.f108) 28
  · exact Vm.b58
  · exact Vm.b26
  · rfl
  · rfl
  · rfl
  · rfl
  · rfl
  · rfl
  · rfl
  intro E1 rec tmps after hE1 hrec hcf haft
  repeat' (first | refine Ctl.h ?_ | ((with_reducible intro hif); first | (focus (cases hif; done)) | (simp only [JH] at hif; try (exfalso; omega)) | (try (exfalso; omega))) | ((first | ((with_reducible apply J22 c1_ok tab_ok); (· rfl)) | ((with_reducible apply J23 fol c1_ok tab_ok); (· rfl)) | with_reducible apply J24); (· exact Vm.b72); (try kernel_rfl); (try exact Vm.b14)) | fail)
  refine WF.loopAt (fun (j : Nat) => j ≤ 3) (fun (j : Nat) => [(0, .yl 5), (1, .ptr 2 []), (17, .sl 6 6 [] 4 0 3 none), (18, .nat .i64 3), (19, .nat .i64 j)]) (fun (j : Nat) => match j with | 0 => [.gone, .gone, pkB 1, .own 196 (.sl 0 0 [] 0 0 0 (some 0)) true, .raw (.deferred (some [])), .raw (.loop (rec .ready none)), .own 168 (.arr 3 4 (fldS 1)) true] | 1 => [.gone, .gone, pkB 1, .own 196 (.sl 7 7 [] 4 0 1 none) true, .raw (.deferred (some [])), .raw (.loop (rec .ready none)), .own 168 (.arr 3 4 (fldS 1)) true, .own 168 (.arr 1 4 (fldS 1)) false] | 2 => [.gone, .gone, pkB 1, .own 196 (.sl 7 7 [] 4 0 2 none) true, .raw (.deferred (some [])), .raw (.loop (rec .ready none)), .own 168 (.arr 3 4 (fldS 1)) true, .own 168 (.arr 2 4 (fldS 1)) false] | _ => [.gone, .gone, pkB 1, .own 196 (.sl 7 7 [] 4 0 3 none) true, .raw (.deferred (some [])), .raw (.loop (rec .ready none)), .own 168 (.arr 3 4 (fldS 1)) true, .own 168 (.arr 3 4 (fldS 1)) false]) (fun (j : Nat) => 3 - j) 0 (by omega) ?_ ?_ rfl ?_ ?_ rfl ?_
  · exact Vm.b5
  · exact Vm.b6
  · exact Vm.b62
  · exact Vm.b62
  intro j hj
  have hj4 : j = 0 ∨ j = 1 ∨ j = 2 ∨ j = 3 := by omega
  rcases hj4 with rfl | rfl | rfl | rfl
  rotate_left 3
  · skip
    repeat' (first | refine Ctl.h ?_ | ((with_reducible intro hif); first | (focus (cases hif; done)) | (simp only [JH] at hif; try (exfalso; omega)) | (try (exfalso; omega))) | ((first | ((with_reducible apply J22 c1_ok tab_ok); (· rfl)) | ((with_reducible apply J23 fol c1_ok tab_ok); (· rfl)) | with_reducible apply J24); (· exact Vm.b72); (try kernel_rfl); (try exact Vm.b14)) | fail)
    with_reducible apply At.itNormal .ready
    · rfl
    · rfl
    · intro h; cases h
    apply haft
    intro w1 M1 D1 hA
    dsimp only
    repeat' (first | refine Ctl.h ?_ | ((with_reducible intro hif); first | (focus (cases hif; done)) | (simp only [JH] at hif; try (exfalso; omega)) | (try (exfalso; omega))) | ((first | ((with_reducible apply J22 c1_ok tab_ok); (· rfl)) | ((with_reducible apply J23 fol c1_ok tab_ok); (· rfl)) | with_reducible apply J24); (· exact Vm.b72); (try kernel_rfl); (try exact Vm.b14)) | fail)
    apply At.endsPick [0, 1, 2, 7] tab_ok (fn := Tryz.f132) (rs := [.tmp 4]) hA hro (Nat.le_of_ble_eq_true rfl) rfl
    · exact Vm.b11
    · exact Vm.b26
    · rfl
    · rfl
    · rfl
    · exact Vm.b63
    · rfl
    · exact Vm.b62
    · exact Vm.b10
    · exact fun β => rfl
    · exact Vm.b62
  all_goals
    repeat' (first | refine Ctl.h ?_ | ((with_reducible intro hif); first | (focus (cases hif; done)) | (simp only [JH] at hif; try (exfalso; omega)) | (try (exfalso; omega))) | ((first | ((with_reducible apply J22 c1_ok tab_ok); (· rfl)) | ((with_reducible apply J23 fol c1_ok tab_ok); (· rfl)) | with_reducible apply J24); (· exact Vm.b72); (try kernel_rfl); (try exact Vm.b14)) | fail)
    with_reducible apply WF.split 2 1
    · rfl
    with_reducible apply At.run c1_ok tab_ok
    · rfl
    · rfl
    · rfl
    · exact Vm.b64
    · exact Vm.b60
    with_reducible apply At.yield (gr := _)
    · rfl
    · rfl
    · rfl
    · rfl
    · rfl
    · rfl
    · exact Vm.b64
    · exact Vm.b65
    · exact Vm.b64
    · exact Vm.b60
    · exact Vm.b64
    · exact Vm.b60
    · exact Vm.b65
    · exact hrec
    · exact hcf
    · rfl
    · rfl
    · rfl
    intro lb E2 next hE2 hnext
    repeat' (first | refine Ctl.h ?_ | ((with_reducible intro hif); first | (focus (cases hif; done)) | (simp only [JH] at hif; try (exfalso; omega)) | (try (exfalso; omega))) | ((first | ((with_reducible apply J22 c1_ok tab_ok); (· rfl)) | ((with_reducible apply J23 fol c1_ok tab_ok); (· rfl)) | with_reducible apply J24); (· exact Vm.b72); (try kernel_rfl); (try exact Vm.b14)) | fail)
    with_reducible apply At.begins hrec
    · rfl
    with_reducible refine At.code ?_
    repeat' (first | refine Ctl.h ?_ | ((with_reducible intro hif); first | (focus (cases hif; done)) | (simp only [JH] at hif; try (exfalso; omega)) | (try (exfalso; omega))) | ((first | ((with_reducible apply J22 c1_ok tab_ok); (· rfl)) | ((with_reducible apply J23 fol c1_ok tab_ok); (· rfl)) | with_reducible apply J24); (· exact Vm.b72); (try kernel_rfl); (try exact Vm.b14)) | fail)
    with_reducible apply At.roundNormal
    · exact Vm.b65
    apply hnext
    with_reducible apply At.runEnd c1_ok tab_ok
    · rfl
    · rfl
    · rfl
    · exact Vm.b64
    · exact Vm.b60
    repeat' (first | refine Ctl.h ?_ | ((with_reducible intro hif); first | (focus (cases hif; done)) | (simp only [JH] at hif; try (exfalso; omega)) | (try (exfalso; omega))) | ((first | ((with_reducible apply J22 c1_ok tab_ok); (· rfl)) | ((with_reducible apply J23 fol c1_ok tab_ok); (· rfl)) | with_reducible apply J24); (· exact Vm.b72); (try kernel_rfl); (try exact Vm.b14)) | fail)
    first
    | skip
      refine At.nextPick [0, 1, 2, 3, 4, 5, 6, 10] 1 ?_ rfl rfl rfl ?_ rfl ?_ ?_ ?_ rfl
      · omega
      · exact Vm.b66
      · exact Vm.b62
      · exact Vm.b67
      · exact Vm.b62
    | skip
      refine At.nextPick [0, 1, 2, 3, 4, 5, 6, 11] 2 ?_ rfl rfl rfl ?_ rfl ?_ ?_ ?_ rfl
      · omega
      · exact Vm.b66
      · exact Vm.b62
      · exact Vm.b67
      · exact Vm.b62
    | skip
      refine At.nextPick [0, 1, 2, 3, 4, 5, 6, 11] 3 ?_ rfl rfl rfl ?_ rfl ?_ ?_ ?_ rfl
      · omega
      · exact Vm.b66
      · exact Vm.b62
      · exact Vm.b67
      · exact Vm.b62
def rApF : Spec := fun args h m => match args with
  | [.sl 0 0 [] 0 0 0 (some 0), .fn f [.ptr a []]] => match h a with
    | .own t (.ptr b []) true => bif Nat.beq t 165 && (Nat.beq f 108 && (h b).born) && nodupN [0, b, a] then some (True, .sl m m [] 4 0 3 none, [b, a], [(a, pkB b), (m, .own 168 (.arr 3 4 (fldS b)) false)]) else none
    | _ => none
  | _ => none
theorem rApF_ok : CallOk Tryz.prog 132 rApF := by
  refine ⟨named_spec (by kernel_rfl), fun args h m c v rd wr hs hm hc w0 M β h' w R hrd hwr hst => ?_⟩
  unfold rApF at hs
  split at hs
  · rename_i f a
    split at hs
    · rename_i t b ha
      obtain ⟨hb, hs⟩ := bif_some hs
      simp only [Option.some.injEq, Prod.mk.injEq] at hs
      obtain ⟨rfl, rfl, rfl, rfl⟩ := hs
      simp only [Bool.and_eq_true] at hb
      obtain ⟨⟨b1, b2, b3⟩, hnd⟩ := hb
      have b1 := Nat.eq_of_beq_eq_true b1
      have b2 := Nat.eq_of_beq_eq_true b2
      subst b1 b2
      have e0 : rhoL [0, b, a] m 0 = 0 := by simp [rhoL]
      have e1 : rhoL [0, b, a] m 1 = b := by simp [rhoL]
      have e2 : rhoL [0, b, a] m 3 = m := by simp [rhoL]
      have e3 : rhoL [0, b, a] m 2 = a := by simp [rhoL]
      exact bun_ok (h := h) (m := m) [0, b, a] apsF_lit R rfl (by simp) rfl rfl hnd
        ⟨Fit.gone (by rw [R.nil0]; rfl), Fit.gone (by rw [hrd b (by simp)]; exact b3), (by
          show Less (h' a) (.own 165 ((SV.ptr 1 []).ren _) true)
          rw [hrd a (by simp), ha]; simp only [SV.ren, e1]; exact .same _), trivial⟩ hm
        (fun p hp => by
          simp only [newB, List.drop, List.length_cons, List.length_nil, List.mem_cons, List.not_mem_nil, or_false] at hp
          subst hp
          have := hwr (m, .own 168 (.arr 3 4 (fldS b)) false) (by simp)
          exact this) (by simp) rfl
        ⟨trivial, trivial, (by simp [pkB, HB.stable, Stable, hp, HB.born]), trivial⟩ (by simp [Stable, StableL, hp, HB.born, pkB]) ⟨trivial, trivial, (by simp [pkB, HB.stable, Stable, hp, mrgL, HB.born, HB.mine]), (by simp only [HB.stable, Stable]; intro i; rw [fldS_st]; exact .inl rfl), trivial⟩ (by simp [Stable, StableL, hp, mrgL, HB.born, pkB, HB.mine]) (by simp [renL, SV.ren, e3, e0])
        (by simp only [SV.ren, renL, e2]) (by
          show [(a, (pkB 1).ren _), (m, (HB.own 168 (.arr 3 4 (fldS 1)) false).ren _)] = _
          simp only [pkB, HB.ren, SV.ren, fldS_ren, e1])
    · cases hs
  · cases hs
def cApF : FuncId → Option Spec := look2 [(132, rApF)]
theorem cApF_ok : ∀ f S, cApF f = some S → CallOk Tryz.prog f S := allOk_spec ⟨rApF_ok, trivial⟩
theorem colF_lit : LitOk Tryz.prog 104 [.fn 108 [.ptr 2 []]] [.gone, .gone, pkB 1] (.sl 3 3 [] 4 0 3 none) [.gone, .gone, pkB 1, .own 168 (.arr 3 4 (fldS 1)) false] := by
  refine litOkM (fn := Tryz.f104) 3 5 0 rfl rfl rfl rfl rfl (by simp only [StableL, Stable, hp, fldS_st, hp, List.getD_cons_succ, List.getD_cons_zero, HB.born, true_or, pkB, HB.stable, i64S, prS, insS, sndsS, sndS, evtsS, evtS]; simp [HB.born]) rfl fun w0 M E hro => ?_
  repeat' (first | refine Ctl.h ?_ | ((with_reducible intro hif); first | (focus (cases hif; done)) | (simp only [JH] at hif; try (exfalso; omega)) | (try (exfalso; omega))) | ((first | ((with_reducible apply J22 cApF_ok tab_ok); (· rfl)) | ((with_reducible apply J23 fol cApF_ok tab_ok); (· rfl)) | with_reducible apply J24); (· (simp only [push_cast, ↓JP, Nat.reduceAdd, Nat.reduceEqDiff, Nat.reduceLT, Nat.reduceMul, Nat.reduceLeDiff, reduceCtorEq, reduceIte, ↓JK, cApF, rApF, pkB, nodupN, memN, inR, inN]; rfl)); (try kernel_rfl); (try exact Vm.b14)) | fail)
  apply At.endsPick [0, 1, 2, 3] tab_ok (fn := Tryz.f104) (rs := [.tmp 2]) Anc.refl hro (Nat.le_of_ble_eq_true rfl) rfl
  · exact Vm.b11
  · exact Vm.b26
  · rfl
  · rfl
  · rfl
  · exact Vm.b63
  · rfl
  · exact Vm.b62
  · exact Vm.b10
  · exact fun β => rfl
  · exact Vm.b62
def rCoF : Spec := fun args h m => match args with
  | [.fn f [.ptr a []]] => match h a with
    | .own t (.ptr b []) true => bif Nat.beq t 165 && (Nat.beq f 108 && (h b).born) && nodupN [0, b, a] then some (True, .sl m m [] 4 0 3 none, [b, a], [(a, pkB b), (m, .own 168 (.arr 3 4 (fldS b)) false)]) else none
    | _ => none
  | _ => none
theorem rCoF_ok : CallOk Tryz.prog 104 rCoF := by
  refine ⟨named_spec (by kernel_rfl), fun args h m c v rd wr hs hm hc w0 M β h' w R hrd hwr hst => ?_⟩
  unfold rCoF at hs
  split at hs
  · rename_i f a
    split at hs
    · rename_i t b ha
      obtain ⟨hb, hs⟩ := bif_some hs
      simp only [Option.some.injEq, Prod.mk.injEq] at hs
      obtain ⟨rfl, rfl, rfl, rfl⟩ := hs
      simp only [Bool.and_eq_true] at hb
      obtain ⟨⟨b1, b2, b3⟩, hnd⟩ := hb
      have b1 := Nat.eq_of_beq_eq_true b1
      have b2 := Nat.eq_of_beq_eq_true b2
      subst b1 b2
      have e0 : rhoL [0, b, a] m 0 = 0 := by simp [rhoL]
      have e1 : rhoL [0, b, a] m 1 = b := by simp [rhoL]
      have e2 : rhoL [0, b, a] m 3 = m := by simp [rhoL]
      have e3 : rhoL [0, b, a] m 2 = a := by simp [rhoL]
      exact bun_ok (h := h) (m := m) [0, b, a] colF_lit R rfl (by simp) rfl rfl hnd
        ⟨Fit.gone (by rw [R.nil0]; rfl), Fit.gone (by rw [hrd b (by simp)]; exact b3), (by
          show Less (h' a) (.own 165 ((SV.ptr 1 []).ren _) true)
          rw [hrd a (by simp), ha]; simp only [SV.ren, e1]; exact .same _), trivial⟩ hm
        (fun p hp => by
          simp only [newB, List.drop, List.length_cons, List.length_nil, List.mem_cons, List.not_mem_nil, or_false] at hp
          subst hp
          have := hwr (m, .own 168 (.arr 3 4 (fldS b)) false) (by simp)
          exact this) (by simp) rfl
        ⟨trivial, trivial, (by simp [pkB, HB.stable, Stable, hp, HB.born]), trivial⟩ (by simp [Stable, StableL, hp, HB.born, pkB]) ⟨trivial, trivial, (by simp [pkB, HB.stable, Stable, hp, mrgL, HB.born, HB.mine]), (by simp only [HB.stable, Stable]; intro i; rw [fldS_st]; exact .inl rfl), trivial⟩ (by simp [Stable, StableL, hp, mrgL, HB.born, pkB, HB.mine]) (by simp [renL, SV.ren, e3, e0])
        (by simp only [SV.ren, renL, e2]) (by
          show [(a, (pkB 1).ren _), (m, (HB.own 168 (.arr 3 4 (fldS 1)) false).ren _)] = _
          simp only [pkB, HB.ren, SV.ren, fldS_ren, e1])
    · cases hs
  · cases hs
def icmp (x y : Int) : Int := if x < y then -1 else if y < x then 1 else 0
theorem nan_lit (x : Int) : LitOk Tryz.prog 133 [.int .i64 x] [.gone] (.bool false) [.gone] := by
  refine litOkM (fn := Tryz.f133) 1 6 0 rfl rfl rfl rfl rfl (by simp only [StableL, Stable, hp, fldS_st, hp, List.getD_cons_succ, List.getD_cons_zero, HB.born, true_or, pkB, HB.stable, i64S, prS, insS, sndsS, sndS, evtsS, evtS]; simp [HB.born]) rfl fun w0 M E hro => ?_
  repeat' (first | refine Ctl.h ?_ | ((with_reducible intro hif); first | (focus (cases hif; done)) | (simp only [JH] at hif; try (exfalso; omega)) | (try (exfalso; omega))) | ((first | ((with_reducible apply J22 cApF_ok tab_ok); (· rfl)) | ((with_reducible apply J23 fol cApF_ok tab_ok); (· rfl)) | with_reducible apply J24); (· (simp only [push_cast, ↓JP, Nat.reduceAdd, Nat.reduceEqDiff, Nat.reduceLT, Nat.reduceMul, Nat.reduceLeDiff, reduceCtorEq, reduceIte, ↓JK, eq_self, inR, inN]; rfl)); (try kernel_rfl); (try exact Vm.b14)) | fail)
  apply At.endsRet tab_ok (fn := Tryz.f133) (rs := [.tmp 2]) Anc.refl hro (Nat.le_of_ble_eq_true rfl) rfl
  · exact Vm.b11
  · exact Vm.b9
  · exact Vm.b6
  · rfl
  · exact Vm.b62
  · exact Vm.b10
  · exact fun β => rfl
  · exact Vm.b62
def sNan : Spec := fun args h m => match args with
  | [v1] => bif isI .i64 v1 then some (True, .bool false, [], []) else none
  | _ => none
theorem sNan_ok : CallOk Tryz.prog 133 sNan := by
  refine ⟨named_spec (by kernel_rfl), fun args h m c v rd wr hs hm hc w0 M β h' w R hrd hwr hst => ?_⟩
  unfold sNan at hs
  split at hs
  · rename_i v1
    obtain ⟨hb, hs⟩ := bif_some hs
    simp only [Option.some.injEq, Prod.mk.injEq] at hs
    obtain ⟨rfl, rfl, rfl, rfl⟩ := hs
    have b1 := hb
    refine callRo (views := []) (nan_lit (iOf v1)) ?_ R hm hwr ?_ ?_ ?_
    · intro x hx; cases hx
    · intro β1 hv
      simp only [denL, aggDen, intDen, natDen, boolDen, ls_length, isI_den b1]
    · exact Vm.b62
    · exact Vm.b62
  · cases hs
def cNan : FuncId → Option Spec := look2 [(133, sNan)]
theorem cNan_ok : ∀ f S, cNan f = some S → CallOk Tryz.prog f S := allOk_spec ⟨sNan_ok, trivial⟩
theorem icmp_lit (x y : Int) : LitOk Tryz.prog 105 [.int .i64 x, .int .i64 y] [.gone] (.int .i64 (icmp x y)) [.gone] := by
  by_cases h1 : x < y
  · have e : icmp x y = -1 := by unfold icmp; rw [if_pos h1]
    rw [e]
    refine litOkM (fn := Tryz.f105) 1 20 0 rfl rfl rfl rfl rfl (by simp only [StableL, Stable, hp, fldS_st, hp, List.getD_cons_succ, List.getD_cons_zero, HB.born, true_or, pkB, HB.stable, i64S, prS, insS, sndsS, sndS, evtsS, evtS]; simp [HB.born]) rfl fun w0 M E hro => ?_
    repeat' (first | refine Ctl.h ?_ | ((with_reducible intro hif); first | (focus (cases hif; done)) | (simp only [JH] at hif; try (exfalso; omega)) | (try (exfalso; omega))) | ((first | ((with_reducible apply J22 cNan_ok tab_ok); (· rfl)) | ((with_reducible apply J23 fol cNan_ok tab_ok); (· rfl)) | with_reducible apply J24); (· (simp only [push_cast, ↓JP, Nat.reduceAdd, Nat.reduceEqDiff, Nat.reduceLT, Nat.reduceMul, Nat.reduceLeDiff, reduceCtorEq, reduceIte, ↓JK, cNan, sNan, inR, inN, h1]; rfl)); (try kernel_rfl); (try exact Vm.b14)) | fail)
    apply At.endsRet tab_ok (fn := Tryz.f105) (rs := [.tmp 4]) Anc.refl hro (Nat.le_of_ble_eq_true rfl) rfl
    · exact Vm.b11
    · exact Vm.b9
    · exact Vm.b6
    · rfl
    · exact Vm.b62
    · exact Vm.b10
    · exact fun β => rfl
    · exact Vm.b62
  · by_cases h2 : y < x
    · have e : icmp x y = 1 := by unfold icmp; rw [if_neg h1, if_pos h2]
      rw [e]
      refine litOkM (fn := Tryz.f105) 1 20 0 rfl rfl rfl rfl rfl (by simp only [StableL, Stable, hp, fldS_st, hp, List.getD_cons_succ, List.getD_cons_zero, HB.born, true_or, pkB, HB.stable, i64S, prS, insS, sndsS, sndS, evtsS, evtS]; simp [HB.born]) rfl fun w0 M E hro => ?_
      repeat' (first | refine Ctl.h ?_ | ((with_reducible intro hif); first | (focus (cases hif; done)) | (simp only [JH] at hif; try (exfalso; omega)) | (try (exfalso; omega))) | ((first | ((with_reducible apply J22 cNan_ok tab_ok); (· rfl)) | ((with_reducible apply J23 fol cNan_ok tab_ok); (· rfl)) | with_reducible apply J24); (· exact Vm.b74); (try kernel_rfl); (try exact Vm.b14)) | fail)
      apply At.endsRet tab_ok (fn := Tryz.f105) (rs := [.tmp 4]) Anc.refl hro (Nat.le_of_ble_eq_true rfl) rfl
      · exact Vm.b11
      · exact Vm.b9
      · exact Vm.b6
      · rfl
      · exact Vm.b62
      · exact Vm.b10
      · exact fun β => rfl
      · exact Vm.b62
    · have e : icmp x y = 0 := by unfold icmp; rw [if_neg h1, if_neg h2]
      rw [e]
      refine litOkM (fn := Tryz.f105) 1 20 0 rfl rfl rfl rfl rfl (by simp only [StableL, Stable, hp, fldS_st, hp, List.getD_cons_succ, List.getD_cons_zero, HB.born, true_or, pkB, HB.stable, i64S, prS, insS, sndsS, sndS, evtsS, evtS]; simp [HB.born]) rfl fun w0 M E hro => ?_
      repeat' (first | refine Ctl.h ?_ | ((with_reducible intro hif); first | (focus (cases hif; done)) | (simp only [JH] at hif; try (exfalso; omega)) | (try (exfalso; omega))) | ((first | ((with_reducible apply J22 cNan_ok tab_ok); (· rfl)) | ((with_reducible apply J23 fol cNan_ok tab_ok); (· rfl)) | with_reducible apply J24); (· exact Vm.b74); (try kernel_rfl); (try exact Vm.b14)) | fail)
      apply At.endsRet tab_ok (fn := Tryz.f105) (rs := [.tmp 4]) Anc.refl hro (Nat.le_of_ble_eq_true rfl) rfl
      · exact Vm.b11
      · exact Vm.b9
      · exact Vm.b6
      · rfl
      · exact Vm.b62
      · exact Vm.b10
      · exact fun β => rfl
      · exact Vm.b62
def sIcmp : Spec := fun args h m => match args with
  | [v1, v2] => bif isI .i64 v1 && isI .i64 v2 then some (True, .int .i64 (icmp (iOf v1) (iOf v2)), [], []) else none
  | _ => none
theorem sIcmp_ok : CallOk Tryz.prog 105 sIcmp := by
  refine ⟨named_spec (by kernel_rfl), fun args h m c v rd wr hs hm hc w0 M β h' w R hrd hwr hst => ?_⟩
  unfold sIcmp at hs
  split at hs
  · rename_i v1 v2
    obtain ⟨hb, hs⟩ := bif_some hs
    simp only [Option.some.injEq, Prod.mk.injEq] at hs
    obtain ⟨rfl, rfl, rfl, rfl⟩ := hs
    simp only [Bool.and_eq_true] at hb
    obtain ⟨b1, b2⟩ := hb
    refine callRo (views := []) (icmp_lit (iOf v1) (iOf v2)) ?_ R hm hwr ?_ ?_ ?_
    · intro x hx; cases hx
    · intro β1 hv
      simp only [denL, aggDen, intDen, natDen, boolDen, ls_length, isI_den b1, isI_den b2]
    · exact Vm.b62
    · exact Vm.b62
  · cases hs
end Go.Proofs.YtjliakjbdcplcaaGreat.Vm
end
end

import Derived.Test.YtjliakjbdcplcaaGreatN6
import Derived.Test.YtjliakjbdcplcaaGreatN8
import Derived.Test.YtjliakjbdcplcaaGreatN11
import Derived.Test.YtjliakjbdcplcaaGreatN12
import Derived.Test.YtjliakjbdcplcaaGreatN15
section
namespace Go.Proofs.YtjliakjbdcplcaaGreat.Vm
theorem b119 {P : Prop} (h : P := by (repeat' (first | exact trivial | exact rfl | assumption | apply Stable.ite | apply And.intro | intro _ | (simp only [Stable, StableL, pcS, i64S, prS, insS, sndsS, sndS, prT, i64O, inO, prO, HB.stable]; done)))) : P := h
theorem b120 {P : Prop} (h : P := by (repeat' (first | exact trivial | exact rfl | assumption | exact hst _ _ | exact hst1 _ _ | exact hst2 _ _ | apply Stable.ite | apply And.intro | intro _ | (simp only [Stable, StableL, pcS, i64S, prS, insS, sndsS, sndS, prT, i64O, inO, prO, HB.stable, spI, spN]; done)))) : P := h
theorem b121 {P : Prop} (h : P := by (repeat' (first | exact trivial | exact .inl rfl | exact .inr (.same _) | exact .inr .loose | exact .inr (.arr (by assumption)) | apply And.intro | (exact .inr (less_spI P j rfl))))) : P := h
theorem b122 {P : Prop} (h : P := by (repeat' (first | exact trivial | exact .inl rfl | exact .inr (.same _) | exact .inr .loose | exact .inr (.arr (by assumption)) | apply And.intro | (exact .inr (less_spN ps k rfl)) | (exact .inr (less_spIr P j))))) : P := h
theorem b123 {P : Prop} (h : P := by (first | exact True.intro | ((try simp only [JS, implies_true, forall_const, shaped, shapedL, kndOf, ls_prS, ls_prS', ls_prS2, ls_i64S', ls_i64S, ls_zero, ls_length, Nat.zero_add, prc_eta, iOf, nat_zero_int]); (repeat' (first | exact True.intro | assumption | omega | apply And.intro | rfl | decide | intro _)); done) | ((try simp only [JS, implies_true, forall_const, shaped, shapedL, kndOf, inR, inN]); (repeat' (first | assumption | exact True.intro | omega | apply And.intro)); done))) : P := h
theorem b124 {P : Prop} (h : P := by (first | exact True.intro | ((try simp only [JS, implies_true, forall_const, shaped, shapedL, kndOf, ls_prS, ls_prS', ls_prS2, ls_i64S', ls_i64S, ls_i64S2, ls_zero, ls_length, Nat.zero_add, prc_eta, iOf, nat_zero_int]); (repeat' (first | exact True.intro | assumption | omega | apply And.intro | rfl | decide | intro _)); done) | ((try simp only [JS, implies_true, forall_const, shaped, shapedL, kndOf, inR, inN]); (repeat' (first | assumption | exact True.intro | omega | apply And.intro)); done))) : P := h
theorem b125 {P : Prop} (h : P := by (simp only [push_cast, ↓JP, Nat.reduceAdd, Nat.reduceEqDiff, Nat.reduceLT, Nat.reduceMul, Nat.reduceLeDiff, reduceCtorEq, reduceIte, ↓JK, JE, cMdN, sClI, sClN, sTh14, sTh28, sR28S, prO, prT, i64O, inO, pcS, pc0, isI_int, isI_nat, iOf, nat_zero_int, ls_zero, ls_prS, ls_prS', ls_prS2, nodupN, memN, spI_size, spN_size, inR, inN, sNewN, sRNewN, g60, g30, eqP_zero, hjl]; rfl)) : P := h
theorem b126 {P : Prop} (h : P := by (simp only [push_cast, ↓JP, Nat.reduceAdd, Nat.reduceEqDiff, Nat.reduceLT, Nat.reduceMul, Nat.reduceLeDiff, reduceCtorEq, reduceIte, ↓JK, JE, cMdN, sClI, sClN, sTh14, sTh28, sR28S, prO, prT, i64O, inO, pcS, pc0, isI_int, isI_nat, iOf, nat_zero_int, ls_zero, ls_prS, ls_prS', ls_prS2, nodupN, memN, spI_size, spN_size, inR, inN, sNewN, sRNewN, g60, g30, eqP_zero, hkl]; rfl)) : P := h
theorem b127 {P : Prop} (h : P := by (first | exact True.intro | ((try simp only [JS, implies_true, forall_const, shaped, shapedL, kndOf, ls_prS, ls_prS', ls_prS2, ls_i64S', ls_i64S, ls_i64S2, ls_zero, ls_length, Nat.zero_add, prc_eta, iOf, nat_zero_int, hCl, hC, hN]); (repeat' (first | exact True.intro | assumption | omega | apply And.intro | rfl | decide | intro _)); done) | ((try simp only [JS, implies_true, forall_const, shaped, shapedL, kndOf, inR, inN]); (repeat' (first | assumption | exact True.intro | omega | apply And.intro)); done))) : P := h
theorem b128 {P : Prop} (h : P := by (simp only [push_cast, ↓JP, Nat.reduceAdd, Nat.reduceEqDiff, Nat.reduceLT, Nat.reduceMul, Nat.reduceLeDiff, reduceCtorEq, reduceIte, ↓JK, JE, cMdY, sClI, sClN, sTh14, sTh28, sR28S, prO, prT, i64O, inO, pcS, pc0, isI_int, isI_nat, iOf, nat_zero_int, ls_zero, ls_prS, ls_prS', ls_prS2, nodupN, memN, spI_size, spN_size, inR, inN, sNewY, sRNewY, g60, g30, hCl, hC, hN, eqP_self, ls_i64S, ls_i64S', ls_i64S2, hjl]; rfl)) : P := h
theorem b129 {P : Prop} (h : P := by (simp only [push_cast, ↓JP, Nat.reduceAdd, Nat.reduceEqDiff, Nat.reduceLT, Nat.reduceMul, Nat.reduceLeDiff, reduceCtorEq, reduceIte, ↓JK, JE, cMdY, sClI, sClN, sTh14, sTh28, sR28S, prO, prT, i64O, inO, pcS, pc0, isI_int, isI_nat, iOf, nat_zero_int, ls_zero, ls_prS, ls_prS', ls_prS2, nodupN, memN, spI_size, spN_size, inR, inN, sNewY, sRNewY, g60, g30, hCl, hC, hN, eqP_self, ls_i64S, ls_i64S', ls_i64S2, hkl]; rfl)) : P := h
end Go.Proofs.YtjliakjbdcplcaaGreat.Vm
end
section
open Go.Proofs.YtjliakjbdcplcaaGreat.Vm Go.RowKit
attribute [local push_cast] runR opG gtmp gval gus opX tmpsOf tm tmO tmP restr look look2 tab tys zs ets eqB eqBL allB numOf ieq Int.cast_ofNat_Int Int.ofNat_zero beq_true beq_false frameOf ev evL ofV opV loadV noW pushF wrsL setH allBorn allGone HB.born HB.isGone HB.val SV.plain dstOk hp nav fitsT SV.size sizeL SV.isAgg TK.size TK.agg bin binE binN binI arN arI cmpN cmpI keq kn narrow callV storeV setp fillV buildV buildSliceV makeV sliceV appendV appendFV slice3V copyV List.isEmpty_nil srcV evO asN ite_t ite_f ite_bool ite_int ite_nat maxV v_beq v_ble v_blt cond_true cond_false List.getElem?_cons_zero List.getElem?_cons_succ List.getD_cons_zero List.getD_cons_succ List.getD_nil List.length_cons List.length_nil List.take_succ_cons List.take_zero List.set_cons_zero List.set_cons_succ List.cons_append List.nil_append List.append_assoc List.replicate_succ List.replicate_zero Nat.zero_add Nat.add_zero decide_true decide_false Bool.true_and Bool.and_true Bool.false_and Bool.and_false Bool.true_or Bool.or_true Bool.false_or Bool.or_false beq_self_eq_true Bool.or_self Nat.lt_irrefl Nat.not_lt_zero Nat.le_refl Option.getD_some Option.getD_none BEq.rfl Bool.not_true Bool.not_false Bool.cond_true_left Bool.cond_false_right prS sndsS i64S nav_ins nav_ins0 nav_ins1 nav_ins2 nav_ins3 nav_ins4 nav_snd nav_snd0 nav_snd1 nav_snd2 isIns_insS insOf_insS isSnd_sndS sndOf_sndS isI_int isI_nat iOf
section
namespace Go.Proofs.YtjliakjbdcplcaaGreat.Vm
open Go.RowKit
set_option linter.unusedVariables false
set_option linter.unusedSimpArgs false
set_option maxRecDepth 100000
set_option maxHeartbeats 4000000
def sOneX : Spec := fun args h m => match args with
  | [.agg [_, _, .nat .i64 10], .agg [_, _, _, _, _, .sl 5 5 [] 1 0 1 none], .agg [.agg [.nat .i64 7, _, _], .nat .i64 3, _]] => sOneG args h m
  | _ => sOneB args h m
theorem sOneX_ok : CallOk Tryz.prog 59 sOneX := by
  refine ⟨named_spec (by kernel_rfl), fun args h m c v rd wr hs hm hc w0 M β h' w R hrd hwr hst => ?_⟩
  unfold sOneX at hs
  split at hs
  · exact sOneG_ok.2 _ h m c v rd wr hs hm hc w0 M β h' w R hrd hwr hst
  · exact sOneB_ok.2 _ h m c v rd wr hs hm hc w0 M β h' w R hrd hwr hst
theorem ls_one {α : Type} (g : SV → α) (f : Nat → SV) : ls g 1 f = [g (f 0)] := rfl
theorem ls_two {α : Type} (g : SV → α) (f : Nat → SV) : ls g 2 f = [g (f 0), g (f 1)] := rfl
theorem nat_zero_int : ((0 : Nat) : Int) = 0 := rfl
theorem nat_one_int : ((1 : Nat) : Int) = 1 := rfl
theorem insOf_agg (a b c d e : SV) : insOf (.agg [a, b, c, d, e]) = ⟨iOf a, iOf b, iOf c, iOf d, iOf e⟩ := rfl
theorem evtOf_agg (a b c d e : SV) : evtOf (.agg [.agg [a, b, c], d, e]) = ⟨iOf a, iOf b, iOf c, iOf d, iOf e⟩ := rfl
theorem isEvt_agg (a b c d e : SV) : isEvt (.agg [.agg [a, b, c], d, e]) = (isI .i64 a && isI .i64 b && isI .i64 c && isI .i64 d && isI .i64 e) := rfl
def cAw28 : FuncId → Option Spec := look2 [(55, sNewPG), (59, sOneX), (24, (sAllB 1)), (60, sEqEvt)]
theorem cAw28_ok : ∀ f S, cAw28 f = some S → CallOk Tryz.prog f S := allOk_spec ⟨sNewPG_ok, sOneX_ok, sAllB_ok 1, sEqEvt_ok, trivial⟩
theorem awake28_lit : LitOk Tryz.prog 21 [] [.gone] (.bool true) [.gone] := by
  have k1 : ∀ x ∈ ([⟨8, 1, 0, 0, 0⟩, ⟨1, 0, 0, 0, 0⟩] : List Ins), x.ok := by intro x hx; simp only [List.mem_cons, List.not_mem_nil, or_false] at hx; rcases hx with rfl | rfl <;> (refine ⟨?_, ?_, ?_, ?_, ?_, ?_, ?_, ?_, ?_, ?_⟩ <;> decide)
  have r1 : (newP 3 [⟨8, 1, 0, 0, 0⟩, ⟨1, 0, 0, 0, 0⟩] 0 [5]).rightB = true := by kernel_rfl
  have f1 : oneE ⟨0, 2, 10⟩ ⟨3, [⟨8, 1, 0, 0, 0⟩, ⟨1, 0, 0, 0, 0⟩], [], 0, 0, [5]⟩ ⟨7, 0, 4, 3, 9⟩ = 0 := by kernel_rfl
  have f2 : oneE ⟨0, 2, 10⟩ ⟨3, [⟨8, 1, 0, 0, 0⟩, ⟨1, 0, 0, 0, 0⟩], [], 0, 0, [5]⟩ ⟨1, 0, 1, 3, 0⟩ = 189 := by kernel_rfl
  have n2 : oneE ⟨0, 2, 10⟩ ⟨3, [⟨8, 1, 0, 0, 0⟩, ⟨1, 0, 0, 0, 0⟩], [], 0, 0, [5]⟩ ⟨1, 0, 1, 3, 0⟩ ≠ 0 := by rw [f2]; decide
  have f3 : oneE ⟨0, 2, 10⟩ ⟨3, [⟨8, 1, 0, 0, 0⟩, ⟨1, 0, 0, 0, 0⟩], [], 0, 0, [5]⟩ ⟨7, 0, 4, 4, 9⟩ = 282 := by kernel_rfl
  have n3 : oneE ⟨0, 2, 10⟩ ⟨3, [⟨8, 1, 0, 0, 0⟩, ⟨1, 0, 0, 0, 0⟩], [], 0, 0, [5]⟩ ⟨7, 0, 4, 4, 9⟩ ≠ 0 := by rw [f3]; decide
  have f4 : oneE ⟨0, 2, 1⟩ ⟨3, [⟨8, 1, 0, 0, 0⟩, ⟨1, 0, 0, 0, 0⟩], [], 0, 0, [5]⟩ ⟨7, 0, 4, 3, 9⟩ = 190 := by kernel_rfl
  have n4 : oneE ⟨0, 2, 1⟩ ⟨3, [⟨8, 1, 0, 0, 0⟩, ⟨1, 0, 0, 0, 0⟩], [], 0, 0, [5]⟩ ⟨7, 0, 4, 3, 9⟩ ≠ 0 := by rw [f4]; decide
  have f6 : oneE ⟨0, 2, 10⟩ ⟨3, [⟨8, 1, 0, 0, 0⟩, ⟨1, 0, 0, 0, 0⟩], [], 0, 0, [0]⟩ ⟨7, 0, 4, 3, 9⟩ = 285 := by kernel_rfl
  have n6 : oneE ⟨0, 2, 10⟩ ⟨3, [⟨8, 1, 0, 0, 0⟩, ⟨1, 0, 0, 0, 0⟩], [], 0, 0, [0]⟩ ⟨7, 0, 4, 3, 9⟩ ≠ 0 := by rw [f6]; decide
  have f5 : badAt ⟨3, [⟨8, 1, 0, 0, 0⟩, ⟨1, 0, 0, 0, 0⟩], [], 0, 0, [5]⟩ [⟨7, 0, 4, 3, 9⟩, ⟨7, 0, 4, 3, 9⟩] 1 = 283 := by kernel_rfl
  have n5 : badAt ⟨3, [⟨8, 1, 0, 0, 0⟩, ⟨1, 0, 0, 0, 0⟩], [], 0, 0, [5]⟩ [⟨7, 0, 4, 3, 9⟩, ⟨7, 0, 4, 3, 9⟩] 1 ≠ 0 := by rw [f5]; decide
  have g5 : ∀ q, q < 1 → badAt ⟨3, [⟨8, 1, 0, 0, 0⟩, ⟨1, 0, 0, 0, 0⟩], [], 0, 0, [5]⟩ [⟨7, 0, 4, 3, 9⟩, ⟨7, 0, 4, 3, 9⟩] q = 0 := by intro q hq; obtain rfl : q = 0 := (by omega); kernel_rfl
  have p5 : procE ⟨0, 2, 10⟩ ⟨3, [⟨8, 1, 0, 0, 0⟩, ⟨1, 0, 0, 0, 0⟩], [], 0, 0, [5]⟩ = 0 := by kernel_rfl
  have h1 : (hS ⟨0, 2, 10⟩ ⟨⟨3, [⟨8, 1, 0, 0, 0⟩, ⟨1, 0, 0, 0, 0⟩], [], 0, 0, [5]⟩, [], 0⟩ ⟨7, 0, 4, 3, 9⟩).sent = [⟨14, 3, 0, 5, 9⟩] := by kernel_rfl
  have h2 : (hS ⟨0, 2, 10⟩ ⟨⟨3, [⟨8, 1, 0, 0, 0⟩, ⟨1, 0, 0, 0, 0⟩], [], 0, 0, [5]⟩, [], 0⟩ ⟨7, 0, 4, 3, 9⟩).used = 2 := by kernel_rfl
  have h3 : (hS ⟨0, 2, 10⟩ ⟨⟨3, [⟨8, 1, 0, 0, 0⟩, ⟨1, 0, 0, 0, 0⟩], [], 0, 0, [5]⟩, [], 0⟩ ⟨7, 0, 4, 3, 9⟩).p.seq = 1 := by kernel_rfl
  have z1 : eqL ([⟨14, 3, 0, 5, 9⟩] : List Evt) [⟨14, 3, 0, 5, 9⟩] = true := by exact eqL_true rfl
  refine litOkM (fn := Tryz.f21) 1 126 0 rfl rfl rfl rfl rfl trivial rfl fun w0 M E hro => ?_
  repeat' (first | refine Ctl.h ?_ | ((with_reducible intro hif); first | (focus (cases hif; done)) | (simp only [JH] at hif; try (exfalso; omega)) | (try (exfalso; omega))) | ((first | ((with_reducible apply J22 cAw28_ok tab_ok); (· rfl)) | ((with_reducible apply J23 fol cAw28_ok tab_ok); (· rfl)) | with_reducible apply J24); (· (simp only [push_cast, ↓JP, Nat.reduceAdd, Nat.reduceEqDiff, Nat.reduceLT, Nat.reduceMul, Nat.reduceLeDiff, reduceCtorEq, reduceIte, ↓JK, JE, JB, prc_eta, rul_eta, dnn_eta, cAw28, sNewPG, sOneX, sOneG, sOneB, sAllB, sEqEvt, pcS, prO, i64O, inO, evO_, dnS, dnR, dn0, newP, ls_one, ls_two, ls_zero, insOf_agg, evtOf_agg, isEvt_agg, nat_zero_int, nat_one_int, ls_evtsS, ls_evtsS', ls_evtsS2, evtsS, isEvt_evtS, evtOf_evtS, inR, inN, f1, f2, f3, f4, f6, f5, h1, h2, h3, z1]; rfl)); (try kernel_rfl); (try (focus (first | exact True.intro | ((try simp only [JS, implies_true, forall_const, shaped, shapedL, kndOf, iOf, newP, ls_one, ls_two, ls_zero, insOf_agg, evtOf_agg, isEvt_agg, nat_zero_int, nat_one_int, Nat.zero_add, List.getD_cons_zero, List.getD_cons_succ, Int.cast_ofNat_Int, List.replicate_zero, List.length_cons, List.length_nil]); (repeat' (first | exact True.intro | assumption | apply And.intro | decide | (intro q hq; first | rfl | exact hq.elim | exact k1 q hq | exact g5 q hq | ((rcases q with _ | _ | _ | q) <;> first | rfl | (exfalso; revert hq; simp; done))))); done) | ((try simp only [JS, implies_true, forall_const, shaped, shapedL, kndOf, inR, inN]); (repeat' (first | assumption | exact True.intro | omega | apply And.intro)); done))))) | fail)
  apply At.endsRet tab_ok (fn := Tryz.f21) (rs := [.tmp 0]) Anc.refl hro (Nat.le_of_ble_eq_true rfl) rfl
  · simp only [push_cast, ↓JP, Nat.reduceAdd, Nat.reduceEqDiff, Nat.reduceLT, Nat.reduceMul, Nat.reduceLeDiff, reduceCtorEq, reduceIte, ↓JK, resV, resV1, newP, ls_one, ls_two, ls_zero, insOf_agg, evtOf_agg, isEvt_agg, nat_zero_int, nat_one_int]; rfl
  · exact Vm.b9
  · exact Vm.b6
  · rfl
  · exact Vm.b112
  · exact Vm.b10
  · first | exact fun β => rfl | (intro β; kernel_rfl)
  · exact Vm.b112
def sAw28 : Spec := fun args h m => match args with
  | [] => some (True, .bool true, [], [])
  | _ => none
theorem sAw28_ok : CallOk Tryz.prog 21 sAw28 := by
  refine ⟨named_spec (by kernel_rfl), fun args h m c v rd wr hs hm hc w0 M β h' w R hrd hwr hst => ?_⟩
  unfold sAw28 at hs
  split at hs
  · skip
    simp only [Option.some.injEq, Prod.mk.injEq] at hs
    obtain ⟨rfl, rfl, rfl, rfl⟩ := hs
    refine callRo (views := []) (awake28_lit) ?_ R hm hwr ?_ ?_ ?_
    · intro x hx; cases hx
    · intro β1 hv
      simp only [denL, aggDen, intDen, natDen, boolDen, ls_length]
    · exact Vm.b112
    · exact Vm.b112
  · cases hs
end Go.Proofs.YtjliakjbdcplcaaGreat.Vm
end

section
namespace Go.Proofs.YtjliakjbdcplcaaGreat.Vm
open Go.RowKit
set_option linter.unusedVariables false
set_option linter.unusedSimpArgs false
set_option maxRecDepth 100000
set_option maxHeartbeats 4000000
theorem newP_out (id ci : Int) (P : List Ins) (ps : List Int) (p1 p2 : Nat) (hci : ci < 0 ∨ 1024 < ci) : LitOk Tryz.prog 55 [.int .i64 id, .sl 1 2 [] 5 0 P.length (some p1), .int .i64 ci, .sl 3 4 [] 1 0 ps.length (some p2)] [.gone, .gone, .ro (.arr P.length 5 (prS P)), .gone, .ro (.arr ps.length 1 (i64S ps))] (.tup [pc0, .int .i64 281]) [.gone] := by
  rcases hci with h | h
  · refine litOkM (fn := Tryz.f55) 5 31 0 rfl rfl rfl rfl rfl (by simp only [StableL, Stable, hp, pcS, i64S, prS, insS, sndsS, sndS, prT, i64O, inO, prO, HB.stable]; simp [HB.born]) rfl fun w0 M E hro => ?_
    repeat' (first | refine Ctl.h ?_ | ((with_reducible intro hif); first | (focus (cases hif; done)) | (simp only [JH] at hif; try (exfalso; omega)) | (try (exfalso; omega))) | ((first | ((with_reducible apply J22 c1_ok tab_ok); (· rfl)) | ((with_reducible apply J23 fol c1_ok tab_ok); (· rfl)) | with_reducible apply J24); (· (simp only [push_cast, ↓JP, Nat.reduceAdd, Nat.reduceEqDiff, Nat.reduceLT, Nat.reduceMul, Nat.reduceLeDiff, reduceCtorEq, reduceIte, ↓JK, pc0, h]; rfl)); (try kernel_rfl); (try exact Vm.b12)) | fail)
    apply At.endsRet tab_ok (fn := Tryz.f55) (rs := [.cell 8 67, .tmp 9]) Anc.refl hro (Nat.le_of_ble_eq_true rfl) rfl
    · exact Vm.b11
    · exact Vm.b9
    · exact Vm.b6
    · rfl
    · exact Vm.b119
    · exact Vm.b10
    · exact fun β => rfl
    · exact Vm.b119
  · have h0 : ¬ ci < 0 := by omega
    refine litOkM (fn := Tryz.f55) 5 31 0 rfl rfl rfl rfl rfl (by simp only [StableL, Stable, hp, pcS, i64S, prS, insS, sndsS, sndS, prT, i64O, inO, prO, HB.stable]; simp [HB.born]) rfl fun w0 M E hro => ?_
    repeat' (first | refine Ctl.h ?_ | ((with_reducible intro hif); first | (focus (cases hif; done)) | (simp only [JH] at hif; try (exfalso; omega)) | (try (exfalso; omega))) | ((first | ((with_reducible apply J22 c1_ok tab_ok); (· rfl)) | ((with_reducible apply J23 fol c1_ok tab_ok); (· rfl)) | with_reducible apply J24); (· (simp only [push_cast, ↓JP, Nat.reduceAdd, Nat.reduceEqDiff, Nat.reduceLT, Nat.reduceMul, Nat.reduceLeDiff, reduceCtorEq, reduceIte, ↓JK, pc0, h, h0]; rfl)); (try kernel_rfl); (try exact Vm.b12)) | fail)
    apply At.endsRet tab_ok (fn := Tryz.f55) (rs := [.cell 8 67, .tmp 9]) Anc.refl hro (Nat.le_of_ble_eq_true rfl) rfl
    · exact Vm.b11
    · exact Vm.b9
    · exact Vm.b6
    · rfl
    · exact Vm.b119
    · exact Vm.b10
    · exact fun β => rfl
    · exact Vm.b119
theorem newP_no (id ci : Int) (P : List Ins) (ps : List Int) (p1 p2 : Nat) (hok : ∀ x ∈ P, x.ok) (hn : P.length ≤ 1000000) (hpo : ps.length ≤ 1000000) (hr : (ci < 0 ∨ 1024 < ci) ∨ (newP id P ci.toNat ps).rightB = false) : LitOk Tryz.prog 55 [.int .i64 id, .sl 1 2 [] 5 0 P.length (some p1), .int .i64 ci, .sl 3 4 [] 1 0 ps.length (some p2)] [.gone, .gone, .ro (.arr P.length 5 (prS P)), .gone, .ro (.arr ps.length 1 (i64S ps))] (.tup [pc0, .int .i64 281]) [.gone] := by
  by_cases h : ci < 0 ∨ 1024 < ci
  · exact newP_out id ci P ps p1 p2 h
  · obtain ⟨c, rfl⟩ : ∃ c : Nat, ci = (c : Int) := ⟨ci.toNat, by omega⟩
    rcases hr with hr | hr
    · exact absurd hr h
    · exact newP_bad id c P ps p1 p2 hok hn hpo (by omega) (by rw [Int.toNat_natCast] at hr; exact hr)
theorem newP_yes (id ci : Int) (P : List Ins) (ps : List Int) (p1 p2 : Nat) (hok : ∀ x ∈ P, x.ok) (hn : P.length ≤ 1000000) (hpo : ps.length ≤ 1000000) (h0 : 0 ≤ ci) (h1 : ci ≤ 1024) (hr : (newP id P ci.toNat ps).rightB = true) : LitOk Tryz.prog 55 [.int .i64 id, .sl 1 2 [] 5 0 P.length (some p1), .int .i64 ci, .sl 3 4 [] 1 0 ps.length (some p2)] [.gone, .gone, .ro (.arr P.length 5 (prS P)), .gone, .ro (.arr ps.length 1 (i64S ps))] (.tup [pcS (newP id P ci.toNat ps) 5 6 7, .int .i64 0]) [.gone, .gone, .gone, .gone, .gone, prO P, i64O (newP id P ci.toNat ps).cells, inO ps] := by
  obtain ⟨c, rfl⟩ : ∃ c : Nat, ci = (c : Int) := ⟨ci.toNat, by omega⟩
  rw [Int.toNat_natCast] at hr ⊢
  exact new_ok id c P ps p1 p2 hok hn hpo (by omega) hr
def sNewN : Spec := fun args h m => match args with
  | [v1, v2, v3, v4] => match srcV h 5 (.tup []) v2, srcV h 1 (.tup []) v4 with
    | some (c2, n2, f2, r2), some (c4, n4, f4, r4) => bif isI .i64 v1 && isI .i64 v3 then some (c2 ∧ c4 ∧ (∀ q, q < n2 → isIns (f2 q) = true) ∧ (∀ q, q < n4 → isI .i64 (f4 q) = true) ∧ ((∀ x ∈ (ls insOf n2 f2), x.ok)) ∧ (n2 ≤ 1000000) ∧ (n4 ≤ 1000000) ∧ ((((iOf v3) < 0 ∨ 1024 < (iOf v3)) ∨ (newP (iOf v1) (ls insOf n2 f2) (iOf v3).toNat (ls iOf n4 f4)).rightB = false)), .tup [pc0, .int .i64 281], r2 ++ r4, []) else none
    | _, _ => none
  | _ => none
theorem sNewN_ok : CallOk Tryz.prog 55 sNewN := by
  refine ⟨named_spec (by kernel_rfl), fun args h m c v rd wr hs hm hc w0 M β h' w R hrd hwr hst => ?_⟩
  unfold sNewN at hs
  split at hs
  · rename_i v1 v2 v3 v4
    split at hs
    · rename_i c2 n2 f2 r2 c4 n4 f4 r4 a2 a4
      obtain ⟨hb, hs⟩ := bif_some hs
      simp only [Option.some.injEq, Prod.mk.injEq] at hs
      obtain ⟨rfl, rfl, rfl, rfl⟩ := hs
      simp only [Bool.and_eq_true] at hb
      obtain ⟨b1, b3⟩ := hb
      obtain ⟨k2, k4, g2, g4, y1, y2, y3, y4⟩ := hc
      obtain ⟨A2, p2, d2, e2, t2⟩ := reads_src R a2 k2 (fun i hi => hrd i (List.mem_append_left _ hi)) (by omega)
      obtain ⟨A4, p4, d4, e4, t4⟩ := reads_src R a4 k4 (fun i hi => hrd i (List.mem_append_right _ hi)) (by omega)
      refine callRo (views := [⟨5, (ls insOf n2 f2).length, prS (ls insOf n2 f2), A2, p2⟩, ⟨1, (ls iOf n4 f4).length, i64S (ls iOf n4 f4), A4, p4⟩]) (newP_no (iOf v1) (iOf v3) (ls insOf n2 f2) (ls iOf n4 f4) p2 p4 y1 (by rw [ls_length]; exact y2) (by rw [ls_length]; exact y3) y4) ?_ R hm hwr ?_ ?_ ?_
      · intro x hx
        simp only [List.mem_cons, List.not_mem_nil, or_false] at hx
        rcases hx with rfl | rfl
        · exact viewIns t2 e2 g2
        · exact viewI64 t4 e4 g4
      · intro β1 hv
        simp only [Vd, ls_length, and_true] at hv
        obtain ⟨z2, z4⟩ := hv
        simp only [denL, aggDen, intDen, natDen, boolDen, ls_length, z2, z4, d2, d4, isI_den b1, isI_den b3]
      · exact Vm.b119
      · exact Vm.b119
    · cases hs
  · cases hs
def sNewY : Spec := fun args h m => match args with
  | [v1, v2, v3, v4] => match srcV h 5 (.tup []) v2, srcV h 1 (.tup []) v4 with
    | some (c2, n2, f2, r2), some (c4, n4, f4, r4) => bif isI .i64 v1 && isI .i64 v3 then some (c2 ∧ c4 ∧ (∀ q, q < n2 → isIns (f2 q) = true) ∧ (∀ q, q < n4 → isI .i64 (f4 q) = true) ∧ ((∀ x ∈ (ls insOf n2 f2), x.ok)) ∧ (n2 ≤ 1000000) ∧ (n4 ≤ 1000000) ∧ (0 ≤ (iOf v3)) ∧ ((iOf v3) ≤ 1024) ∧ ((newP (iOf v1) (ls insOf n2 f2) (iOf v3).toNat (ls iOf n4 f4)).rightB = true), .tup [pcS (newP (iOf v1) (ls insOf n2 f2) (iOf v3).toNat (ls iOf n4 f4)) m (m + 1) (m + 2), .int .i64 0], r2 ++ r4, [(m, prO (ls insOf n2 f2)), (m + 1, i64O (newP (iOf v1) (ls insOf n2 f2) (iOf v3).toNat (ls iOf n4 f4)).cells), (m + 2, inO (ls iOf n4 f4))]) else none
    | _, _ => none
  | _ => none
theorem sNewY_ok : CallOk Tryz.prog 55 sNewY := by
  refine ⟨named_spec (by kernel_rfl), fun args h m c v rd wr hs hm hc w0 M β h' w R hrd hwr hst => ?_⟩
  unfold sNewY at hs
  split at hs
  · rename_i v1 v2 v3 v4
    split at hs
    · rename_i c2 n2 f2 r2 c4 n4 f4 r4 a2 a4
      obtain ⟨hb, hs⟩ := bif_some hs
      simp only [Option.some.injEq, Prod.mk.injEq] at hs
      obtain ⟨rfl, rfl, rfl, rfl⟩ := hs
      simp only [Bool.and_eq_true] at hb
      obtain ⟨b1, b3⟩ := hb
      obtain ⟨k2, k4, g2, g4, y1, y2, y3, y4, y5, y6⟩ := hc
      obtain ⟨A2, p2, d2, e2, t2⟩ := reads_src R a2 k2 (fun i hi => hrd i (List.mem_append_left _ hi)) (by omega)
      obtain ⟨A4, p4, d4, e4, t4⟩ := reads_src R a4 k4 (fun i hi => hrd i (List.mem_append_right _ hi)) (by omega)
      refine callRo (views := [⟨5, (ls insOf n2 f2).length, prS (ls insOf n2 f2), A2, p2⟩, ⟨1, (ls iOf n4 f4).length, i64S (ls iOf n4 f4), A4, p4⟩]) (newP_yes (iOf v1) (iOf v3) (ls insOf n2 f2) (ls iOf n4 f4) p2 p4 y1 (by rw [ls_length]; exact y2) (by rw [ls_length]; exact y3) y4 y5 y6) ?_ R hm hwr ?_ ?_ ?_
      · intro x hx
        simp only [List.mem_cons, List.not_mem_nil, or_false] at hx
        rcases hx with rfl | rfl
        · exact viewIns t2 e2 g2
        · exact viewI64 t4 e4 g4
      · intro β1 hv
        simp only [Vd, ls_length, and_true] at hv
        obtain ⟨z2, z4⟩ := hv
        simp only [denL, aggDen, intDen, natDen, boolDen, ls_length, z2, z4, d2, d4, isI_den b1, isI_den b3]
      · exact Vm.b119
      · exact Vm.b119
    · cases hs
  · cases hs
def cRNw : FuncId → Option Spec := look2 [(94, sR28R)]
theorem cRNw_ok : ∀ f S, cRNw f = some S → CallOk Tryz.prog f S := allOk_spec ⟨sR28R_ok, trivial⟩
theorem rnew_no2 (id ci : Int) (P : List Ins) (ps : List Int) (p1 p2 : Nat) (hok : ∀ x ∈ P, x.ok) (hr : ci < 0 ∨ 1024 < ci ∨ Prc.rightB ⟨id, P, [], 0, 0, ps⟩ = false) : LitOk Tryz.prog 56 [.int .i64 id, .sl 1 2 [] 5 0 P.length (some p1), .int .i64 ci, .sl 3 4 [] 1 0 ps.length (some p2)] [.gone, .gone, .ro (.arr P.length 5 (prS P)), .gone, .ro (.arr ps.length 1 (i64S ps))] (.tup [pc0, .int .i64 281]) [.gone] := by
  by_cases h : ci < 0
  · refine litOkM (fn := Tryz.f56) 5 39 0 rfl rfl rfl rfl rfl (by simp only [StableL, Stable, hp, pcS, i64S, prS, insS, sndsS, sndS, prT, i64O, inO, prO, HB.stable]; simp [HB.born]) rfl fun w0 M E hro => ?_
    repeat' (first | refine Ctl.h ?_ | ((with_reducible intro hif); first | (focus (cases hif; done)) | (simp only [JH] at hif; try (exfalso; omega)) | (try (exfalso; omega))) | ((first | ((with_reducible apply J22 cRNw_ok tab_ok); (· rfl)) | ((with_reducible apply J23 fol cRNw_ok tab_ok); (· rfl)) | with_reducible apply J24); (· (simp only [push_cast, ↓JP, Nat.reduceAdd, Nat.reduceEqDiff, Nat.reduceLT, Nat.reduceMul, Nat.reduceLeDiff, reduceCtorEq, reduceIte, ↓JK, JE, cRNw, sR28R, pc0, isI_int, isI_nat, iOf, nat_zero_int, ls_zero, ls_prS, ls_prS', ls_prS2, inR, inN, h]; rfl)); (try kernel_rfl); (try exact Vm.b123)) | fail)
    apply At.endsRet tab_ok (fn := Tryz.f56) (rs := [.cell 8 130, .tmp 9]) Anc.refl hro (Nat.le_of_ble_eq_true rfl) rfl
    · exact Vm.b11
    · exact Vm.b9
    · exact Vm.b6
    · rfl
    · exact Vm.b119
    · exact Vm.b10
    · exact fun β => rfl
    · exact Vm.b119
  by_cases h1 : 1024 < ci
  · refine litOkM (fn := Tryz.f56) 5 39 0 rfl rfl rfl rfl rfl (by simp only [StableL, Stable, hp, pcS, i64S, prS, insS, sndsS, sndS, prT, i64O, inO, prO, HB.stable]; simp [HB.born]) rfl fun w0 M E hro => ?_
    repeat' (first | refine Ctl.h ?_ | ((with_reducible intro hif); first | (focus (cases hif; done)) | (simp only [JH] at hif; try (exfalso; omega)) | (try (exfalso; omega))) | ((first | ((with_reducible apply J22 cRNw_ok tab_ok); (· rfl)) | ((with_reducible apply J23 fol cRNw_ok tab_ok); (· rfl)) | with_reducible apply J24); (· (simp only [push_cast, ↓JP, Nat.reduceAdd, Nat.reduceEqDiff, Nat.reduceLT, Nat.reduceMul, Nat.reduceLeDiff, reduceCtorEq, reduceIte, ↓JK, JE, cRNw, sR28R, pc0, isI_int, isI_nat, iOf, nat_zero_int, ls_zero, ls_prS, ls_prS', ls_prS2, inR, inN, h, h1]; rfl)); (try kernel_rfl); (try exact Vm.b123)) | fail)
    apply At.endsRet tab_ok (fn := Tryz.f56) (rs := [.cell 8 130, .tmp 9]) Anc.refl hro (Nat.le_of_ble_eq_true rfl) rfl
    · exact Vm.b11
    · exact Vm.b9
    · exact Vm.b6
    · rfl
    · exact Vm.b119
    · exact Vm.b10
    · exact fun β => rfl
    · exact Vm.b119
  · have h2 : Prc.rightB ⟨id, P, [], 0, 0, ps⟩ = false := by
      rcases hr with hr | hr | hr
      · exact absurd hr h
      · exact absurd hr h1
      · exact hr
    refine litOkM (fn := Tryz.f56) 5 39 0 rfl rfl rfl rfl rfl (by simp only [StableL, Stable, hp, pcS, i64S, prS, insS, sndsS, sndS, prT, i64O, inO, prO, HB.stable]; simp [HB.born]) rfl fun w0 M E hro => ?_
    repeat' (first | refine Ctl.h ?_ | ((with_reducible intro hif); first | (focus (cases hif; done)) | (simp only [JH] at hif; try (exfalso; omega)) | (try (exfalso; omega))) | ((first | ((with_reducible apply J22 cRNw_ok tab_ok); (· rfl)) | ((with_reducible apply J23 fol cRNw_ok tab_ok); (· rfl)) | with_reducible apply J24); (· (simp only [push_cast, ↓JP, Nat.reduceAdd, Nat.reduceEqDiff, Nat.reduceLT, Nat.reduceMul, Nat.reduceLeDiff, reduceCtorEq, reduceIte, ↓JK, JE, cRNw, sR28R, pc0, isI_int, isI_nat, iOf, nat_zero_int, ls_zero, ls_prS, ls_prS', ls_prS2, inR, inN, h, h1, h2]; rfl)); (try kernel_rfl); (try exact Vm.b123)) | fail)
    apply At.endsRet tab_ok (fn := Tryz.f56) (rs := [.cell 8 130, .tmp 9]) Anc.refl hro (Nat.le_of_ble_eq_true rfl) rfl
    · exact Vm.b11
    · exact Vm.b9
    · exact Vm.b6
    · rfl
    · exact Vm.b119
    · exact Vm.b10
    · exact fun β => rfl
    · exact Vm.b119
theorem rnew_yes (id : Int) (c : Nat) (P : List Ins) (ps : List Int) (hok : ∀ x ∈ P, x.ok) (hc : c ≤ 1024) (hr : Prc.rightB ⟨id, P, [], 0, 0, ps⟩ = true) : LitOk Tryz.prog 56 [.int .i64 id, .sl 1 1 [] 5 0 P.length none, .int .i64 (c : Int), .sl 2 2 [] 1 0 ps.length none] [.gone, .ro (.arr P.length 5 (prS P)), .ro (.arr ps.length 1 (i64S ps))] (.tup [(.agg [.int .i64 id, .sl 1 1 [] 5 0 P.length none, .sl 3 3 [] 1 0 c none, .nat .i64 0, .nat .i64 0, .sl 2 2 [] 1 0 ps.length none]), .int .i64 0]) [.gone, .ro (.arr P.length 5 (prS P)), .ro (.arr ps.length 1 (i64S ps)), i64O (List.replicate c 0)] := by
  have h : ¬ (c : Int) < 0 := by omega
  have h1 : ¬ 1024 < (c : Int) := by omega
  refine litOkM (fn := Tryz.f56) 3 39 0 rfl rfl rfl rfl rfl (by simp only [StableL, Stable, hp, pcS, i64S, prS, insS, sndsS, sndS, prT, i64O, inO, prO, HB.stable]; simp [HB.born]) rfl fun w0 M E hro => ?_
  repeat' (first | refine Ctl.h ?_ | ((with_reducible intro hif); first | (focus (cases hif; done)) | (simp only [JH] at hif; try (exfalso; omega)) | (try (exfalso; omega))) | ((first | ((with_reducible apply J22 cRNw_ok tab_ok); (· rfl)) | ((with_reducible apply J23 fol cRNw_ok tab_ok); (· rfl)) | with_reducible apply J24); (· (simp only [push_cast, ↓JP, Nat.reduceAdd, Nat.reduceEqDiff, Nat.reduceLT, Nat.reduceMul, Nat.reduceLeDiff, reduceCtorEq, reduceIte, ↓JK, JE, cRNw, sR28R, pc0, isI_int, isI_nat, iOf, nat_zero_int, ls_zero, ls_prS, ls_prS', ls_prS2, inR, inN, h, h1, hr]; rfl)); (try kernel_rfl); (try exact Vm.b123)) | fail)
  refine WF.nilIn 2 1 (i64S []) 4 130 (.agg [.int .i64 id, .sl 1 1 [] 5 0 P.length none, .sl 0 0 [] 0 0 0 (some 0), .nat .i64 0, .nat .i64 0, .sl 2 2 [] 1 0 ps.length none]) (.agg [.int .i64 id, .sl 1 1 [] 5 0 P.length none, .sl 5 5 [] 1 0 0 none, .nat .i64 0, .nat .i64 0, .sl 2 2 [] 1 0 ps.length none]) true (fun _ q => i64S_stable q) rfl (fun β b0 hβ => by
      have e := nil_cl (k := 1) b0 (show β 5 = (none, 0) from hβ)
      simp only [SV.cl, SV.den, denL] at e ⊢
      rw [e]) (fun h hb => by
      have k1 := hb 1 (show (1 : Nat) ≤ 5 by decide)
      have k2 := hb 2 (show (2 : Nat) ≤ 5 by decide)
      have k5 := hb 5 (show (5 : Nat) ≤ 5 by decide)
      simp [Stable, StableL, k1, k2, k5]) rfl (fun n k f e => by cases e) (fun n k f e => by cases e) rfl ?_
  simp only [setH, List.cons_append, List.nil_append]
  have hz : Less (.own 2 (.arr 0 1 (i64S [])) false) (.own 2 (.arr 0 1 (i64S (List.replicate 0 0))) false) := .same _
  refine WF.loopAt (fun (j : Nat) => j ≤ c) (fun (j : Nat) => [(2, .int .i64 (c : Int)), (8, .ptr 3 []), (10, .ptr 4 []), (11, .nat .i64 j)]) (fun (j : Nat) => [.gone, .ro (.arr P.length 5 (prS P)), .ro (.arr ps.length 1 (i64S ps)), .own 130 (.agg [.nat .i64 0, .sl 0 0 [] 0 0 0 (some 0), .sl 0 0 [] 0 0 0 (some 0), .nat .i64 0, .nat .i64 0, .sl 0 0 [] 0 0 0 (some 0)]) true, .own 130 (.agg [.int .i64 id, .sl 1 1 [] 5 0 P.length none, .sl 5 5 [] 1 0 j none, .nat .i64 0, .nat .i64 0, .sl 2 2 [] 1 0 ps.length none]) true, .own 2 (.arr j 1 (i64S (List.replicate j 0))) false]) (fun (j : Nat) => c - j) 0 (Nat.zero_le _) ?_ ?_ rfl ?_ ?_ rfl ?_
  · exact Vm.b5
  · exact Vm.b6
  · exact Vm.b119
  · exact Vm.b119
  intro j hj
  by_cases hjl : j < c
  · have hji : (j : Int) < (c : Int) := by omega
    have hT : List.replicate (j + 1) (0 : Int) = List.replicate j 0 ++ [0] := List.replicate_succ'
    have hTl : (List.replicate j (0 : Int)).length = j := List.length_replicate
    repeat' (first | refine Ctl.h ?_ | ((with_reducible intro hif); first | (focus (cases hif; done)) | (simp only [JH] at hif; try (exfalso; omega)) | (try (exfalso; omega))) | ((first | ((with_reducible apply J22 cRNw_ok tab_ok); (· rfl)) | ((with_reducible apply J23 fol cRNw_ok tab_ok); (· rfl)) | with_reducible apply J24); (· (simp only [push_cast, ↓JP, Nat.reduceAdd, Nat.reduceEqDiff, Nat.reduceLT, Nat.reduceMul, Nat.reduceLeDiff, reduceCtorEq, reduceIte, ↓JK, JE, cRNw, sR28R, pc0, isI_int, isI_nat, iOf, nat_zero_int, ls_zero, ls_prS, ls_prS', ls_prS2, inR, inN, hjl, hji, List.all_cons, List.all_nil]; rfl)); (try kernel_rfl); (try exact Vm.b123)) | fail)
    refine At.nextPick [0, 1, 2, 3, 4, 7] (j + 1) ?_ rfl rfl rfl ?_ rfl ?_ ?_ ?_ rfl
    · omega
    · (repeat' (first | exact trivial | exact .inl rfl | exact .inr (.same _) | exact .inr .loose | exact .inr (.arr (by assumption)) | apply And.intro | (rw [hT]; exact .inr (less_appI _ _ hTl rfl (fun β => rfl)))))
    · exact Vm.b119
    · exact Vm.b67
    · exact Vm.b119
  · obtain rfl : j = c := by omega
    have hji : ¬ (j : Int) < (j : Int) := by omega
    repeat' (first | refine Ctl.h ?_ | ((with_reducible intro hif); first | (focus (cases hif; done)) | (simp only [JH] at hif; try (exfalso; omega)) | (try (exfalso; omega))) | ((first | ((with_reducible apply J22 cRNw_ok tab_ok); (· rfl)) | ((with_reducible apply J23 fol cRNw_ok tab_ok); (· rfl)) | with_reducible apply J24); (· (simp only [push_cast, ↓JP, Nat.reduceAdd, Nat.reduceEqDiff, Nat.reduceLT, Nat.reduceMul, Nat.reduceLeDiff, reduceCtorEq, reduceIte, ↓JK, JE, cRNw, sR28R, pc0, isI_int, isI_nat, iOf, nat_zero_int, ls_zero, ls_prS, ls_prS', ls_prS2, inR, inN, hjl, hji]; rfl)); (try kernel_rfl); (try exact Vm.b123)) | fail)
    apply At.endsPick [0, 1, 2, 5] tab_ok (fn := Tryz.f56) (rs := [.cell 8 130, .tmp 9]) Anc.refl hro (Nat.le_of_ble_eq_true rfl) rfl
    · exact Vm.b11
    · exact Vm.b26
    · rfl
    · rfl
    · rfl
    · (repeat' (first | exact trivial | exact .inl rfl | exact .inr (.same _) | exact .inr .loose | exact .inr (.arr (by assumption)) | apply And.intro | (simp only [i64O, List.length_replicate]; exact .inr (.same _))))
    · rfl
    · exact Vm.b119
    · exact Vm.b10
    · exact fun β => rfl
    · exact Vm.b119
end Go.Proofs.YtjliakjbdcplcaaGreat.Vm
end

section
namespace Go.Proofs.YtjliakjbdcplcaaGreat.Vm
open Go.RowKit
set_option linter.unusedVariables false
set_option linter.unusedSimpArgs false
set_option maxRecDepth 100000
set_option maxHeartbeats 4000000
theorem bun_prI {ρ : Nat → Nat} {h h' : HM} {q n : Nat} {f : Nat → SV} {P : List Ins} (hp : (h q).val = some (.arr n 5 f)) (hf : ∀ x, x < n → isIns (f x) = true) (hP : P = ls insOf n f) (e : h' q = h q) : Bun1 ρ (h' q) (.ro (.arr P.length 5 (prS P))) := by
  subst hP
  rw [ls_length]
  refine Fit.ro (u := .arr n 5 f) (by rw [e]; exact hp) (fun β => ?_) (fun n k f e => by injection e with e1 e2 e3; subst e1 e2; exact ⟨_, rfl⟩)
  simp only [SV.ren, prS_ren]
  refine arrCl fun x hx => ?_
  rw [isIns_cl (hf x hx)]
  unfold prS
  rw [ls_getD hx, isIns_cl (isIns_insS _), insOf_insS]
def sRNewY : Spec := fun args h m => match args with
  | [v1, .sl z b [] 5 0 n none, v3, .sl z2 d [] 1 0 k none] => match (h b).val with
    | some (.arr n' 5 f) => match (h d).val with
      | some (.arr k' 1 g) => bif (isI .i64 v1 && isI .i64 v3) && ((Nat.beq z b && Nat.beq n n') && ((Nat.beq z2 d && Nat.beq k k') && nodupN [0, b, d])) then
          some ((∀ q, q < n → isIns (f q) = true) ∧ (∀ q, q < k → isI .i64 (g q) = true) ∧ (∀ x ∈ ls insOf n f, x.ok) ∧ 0 ≤ iOf v3 ∧ iOf v3 ≤ 1024 ∧ Prc.rightB ⟨iOf v1, ls insOf n f, [], 0, 0, ls iOf k g⟩ = true,
            .tup [.agg [.int .i64 (iOf v1), .sl b b [] 5 0 (ls insOf n f).length none, .sl m m [] 1 0 (iOf v3).toNat none, .nat .i64 0, .nat .i64 0, .sl d d [] 1 0 (ls iOf k g).length none], .int .i64 0], [b, d], [(m, i64O (List.replicate (iOf v3).toNat 0))]) else none
      | _ => none
    | _ => none
  | _ => none
theorem sRNewY_ok : CallOk Tryz.prog 56 sRNewY := by
  refine ⟨named_spec (by kernel_rfl), fun args h m c v rd wr hs hm hc w0 M β h' w R hrd hwr hst => ?_⟩
  unfold sRNewY at hs
  split at hs
  · rename_i v1 z b n v3 z2 d k
    split at hs
    · rename_i n' f hsb
      split at hs
      · rename_i k' g hsd
        obtain ⟨hb, hs⟩ := bif_some hs
        simp only [Option.some.injEq, Prod.mk.injEq] at hs
        obtain ⟨rfl, rfl, rfl, rfl⟩ := hs
        simp only [Bool.and_eq_true] at hb
        obtain ⟨⟨i1, i3⟩, ⟨b1, b2⟩, ⟨b3, b4⟩, hnd⟩ := hb
        have b1 := Nat.eq_of_beq_eq_true b1
        have b2 := Nat.eq_of_beq_eq_true b2
        have b3 := Nat.eq_of_beq_eq_true b3
        have b4 := Nat.eq_of_beq_eq_true b4
        subst b1 b2 b3 b4
        obtain ⟨k1, k2, k3, k4, k5, k6⟩ := hc
        have ec : iOf v3 = ((iOf v3).toNat : Int) := by omega
        have ea : denL β [v1, .sl z z [] 5 0 n none, v3, .sl z2 z2 [] 1 0 k none] = denL β [.int .i64 (iOf v1), .sl z z [] 5 0 (ls insOf n f).length none, .int .i64 ((iOf v3).toNat : Int), .sl z2 z2 [] 1 0 (ls iOf k g).length none] := by
          simp only [denL, ls_length]
          rw [isI_den i1, isI_den i3, ← ec]
          rfl
        rw [ea]
        exact bun_ok (h := h) (m := m) [0, z, z2] (rnew_yes (iOf v1) (iOf v3).toNat (ls insOf n f) (ls iOf k g) k3 (by omega) k6) R rfl (by simp) rfl rfl hnd
          ⟨Fit.gone (by rw [R.nil0]; rfl), bun_prI hsb k1 rfl (hrd z (by simp)), bun_po hsd k2 rfl (hrd z2 (by simp)), trivial⟩ hm
          (fun p hp => hwr p hp) (by simp) rfl
          ⟨trivial, (fun q => prS_stable q), (fun q => i64S_stable q), trivial⟩ ⟨trivial, ⟨rfl, rfl⟩, trivial, ⟨rfl, rfl⟩, trivial⟩
          ⟨trivial, (fun q => prS_stable q), (fun q => i64S_stable q), (fun q => i64S_stable q), trivial⟩ ⟨⟨trivial, ⟨rfl, rfl⟩, ⟨rfl, rfl⟩, trivial, trivial, ⟨rfl, rfl⟩, trivial⟩, trivial, trivial⟩ rfl rfl rfl
      · cases hs
    · cases hs
  · cases hs
def sRNewN : Spec := fun args h m => match args with
  | [v1, v2, v3, v4] => match srcV h 5 (.tup []) v2, srcV h 1 (.tup []) v4 with
    | some (c2, n2, f2, r2), some (c4, n4, f4, r4) => bif isI .i64 v1 && isI .i64 v3 then some (c2 ∧ c4 ∧ (∀ q, q < n2 → isIns (f2 q) = true) ∧ (∀ q, q < n4 → isI .i64 (f4 q) = true) ∧ ((∀ x ∈ (ls insOf n2 f2), x.ok)) ∧ (((iOf v3) < 0 ∨ 1024 < (iOf v3) ∨ Prc.rightB ⟨(iOf v1), (ls insOf n2 f2), [], 0, 0, (ls iOf n4 f4)⟩ = false)), .tup [pc0, .int .i64 281], r2 ++ r4, []) else none
    | _, _ => none
  | _ => none
theorem sRNewN_ok : CallOk Tryz.prog 56 sRNewN := by
  refine ⟨named_spec (by kernel_rfl), fun args h m c v rd wr hs hm hc w0 M β h' w R hrd hwr hst => ?_⟩
  unfold sRNewN at hs
  split at hs
  · rename_i v1 v2 v3 v4
    split at hs
    · rename_i c2 n2 f2 r2 c4 n4 f4 r4 a2 a4
      obtain ⟨hb, hs⟩ := bif_some hs
      simp only [Option.some.injEq, Prod.mk.injEq] at hs
      obtain ⟨rfl, rfl, rfl, rfl⟩ := hs
      simp only [Bool.and_eq_true] at hb
      obtain ⟨b1, b3⟩ := hb
      obtain ⟨k2, k4, g2, g4, y1, y2⟩ := hc
      obtain ⟨A2, p2, d2, e2, t2⟩ := reads_src R a2 k2 (fun i hi => hrd i (List.mem_append_left _ hi)) (by omega)
      obtain ⟨A4, p4, d4, e4, t4⟩ := reads_src R a4 k4 (fun i hi => hrd i (List.mem_append_right _ hi)) (by omega)
      refine callRo (views := [⟨5, (ls insOf n2 f2).length, prS (ls insOf n2 f2), A2, p2⟩, ⟨1, (ls iOf n4 f4).length, i64S (ls iOf n4 f4), A4, p4⟩]) (rnew_no2 (iOf v1) (iOf v3) (ls insOf n2 f2) (ls iOf n4 f4) p2 p4 y1 y2) ?_ R hm hwr ?_ ?_ ?_
      · intro x hx
        simp only [List.mem_cons, List.not_mem_nil, or_false] at hx
        rcases hx with rfl | rfl
        · exact viewIns t2 e2 g2
        · exact viewI64 t4 e4 g4
      · intro β1 hv
        simp only [Vd, ls_length, and_true] at hv
        obtain ⟨z2, z4⟩ := hv
        simp only [denL, aggDen, intDen, natDen, boolDen, ls_length, z2, z4, d2, d4, isI_den b1, isI_den b3]
      · exact Vm.b120
      · exact Vm.b120
    · cases hs
  · cases hs
def zI : SV := .agg [.nat .u8 0, .nat .u8 0, .nat .u8 0, .nat .u8 0, .nat .i64 0]
def spI (P : List Ins) (j : Nat) : Nat → SV := fun q => SV.ite (decide (q < j)) zI (prS P q)
def spN (l : List Int) (j : Nat) : Nat → SV := fun q => SV.ite (decide (q < j)) (.int .i64 (-1)) (i64S l q)
theorem hst1 {h : HM} {P : List Ins} (j q : Nat) : Stable h (spI P j q) := by
  unfold spI
  rw [ite_eq]
  cases decide (q < j)
  · exact prS_stable q
  · simp [zI, Stable, StableL]
theorem hst2 {h : HM} {l : List Int} (j q : Nat) : Stable h (spN l j q) := by
  unfold spN
  rw [ite_eq]
  cases decide (q < j) <;> trivial
theorem spI_size (P : List Ins) (j q : Nat) : (spI P j q).size = 5 := by
  unfold spI
  rw [ite_eq]
  cases decide (q < j) <;> rfl
theorem spN_size (l : List Int) (j q : Nat) : (spN l j q).size = 1 := by
  unfold spN
  rw [ite_eq]
  cases decide (q < j) <;> rfl
theorem spI_ren (ρ : Nat → Nat) (P : List Ins) (j : Nat) : (fun q => (spI P j q).ren ρ) = spI P j := by
  funext q
  unfold spI
  rw [ite_eq]
  cases decide (q < j)
  · exact congrFun (prS_ren ρ P) q
  · rfl
theorem spN_ren (ρ : Nat → Nat) (l : List Int) (j : Nat) : (fun q => (spN l j q).ren ρ) = spN l j := by
  funext q
  unfold spN
  rw [ite_eq]
  cases decide (q < j) <;> rfl
theorem less_sp {t n k : Nat} {b : Bool} {f g : Nat → SV} (h : ∀ β q, q < n → (f q).cl β = (g q).cl β) : Less (.own t (.arr n k f) b) (.own t (.arr n k g) b) :=
  .val (fun β => arrCl fun q hq => h β q hq) (fun n1 k1 f1 e => by injection e with e1 e2 e3; subst e1 e2; exact ⟨_, rfl⟩) (fun n1 k1 f1 e => by injection e with e1 e2 e3; subst e1 e2; exact ⟨_, rfl⟩)
theorem less_spI {t n : Nat} {σ : Nat → Nat} {b : Bool} (P : List Ins) (j : Nat) {g : Nat → SV} (hg : g = fun q => SV.ite (decide (q = j)) zI (spI P j q)) : Less (.own t (.arr n 5 g) b) ((HB.own t (.arr n 5 (spI P (j + 1))) b).ren σ) := by
  have e : (HB.own t (.arr n 5 (spI P (j + 1))) b).ren σ = .own t (.arr n 5 (spI P (j + 1))) b := by simp only [HB.ren, SV.ren]; rw [spI_ren]
  rw [e]
  subst hg
  refine less_sp fun β q _ => ?_
  unfold spI
  simp only [ite_eq]
  by_cases h1 : q = j
  · simp [h1]
  · by_cases h2 : q < j
    · have h3 : q < j + 1 := by omega
      simp [h1, h2, h3]
    · have h3 : ¬ q < j + 1 := by omega
      simp [h1, h2, h3]
theorem less_spIr {t n : Nat} {σ : Nat → Nat} {b : Bool} (P : List Ins) (j : Nat) : Less (.own t (.arr n 5 (spI P j)) b) ((HB.own t (.arr n 5 (spI P j)) b).ren σ) := by
  have e : (HB.own t (.arr n 5 (spI P j)) b).ren σ = .own t (.arr n 5 (spI P j)) b := by simp only [HB.ren, SV.ren]; rw [spI_ren]
  rw [e]
  exact .same _
theorem less_spN {t n : Nat} {σ : Nat → Nat} {b : Bool} (l : List Int) (j : Nat) {g : Nat → SV} (hg : g = fun q => SV.ite (decide (q = j)) (.int .i64 (-1)) (spN l j q)) : Less (.own t (.arr n 1 g) b) ((HB.own t (.arr n 1 (spN l (j + 1))) b).ren σ) := by
  have e : (HB.own t (.arr n 1 (spN l (j + 1))) b).ren σ = .own t (.arr n 1 (spN l (j + 1))) b := by simp only [HB.ren, SV.ren]; rw [spN_ren]
  rw [e]
  subst hg
  refine less_sp fun β q _ => ?_
  unfold spN
  simp only [ite_eq]
  by_cases h1 : q = j
  · simp [h1]
  · by_cases h2 : q < j
    · have h3 : q < j + 1 := by omega
      simp [h1, h2, h3]
    · have h3 : ¬ q < j + 1 := by omega
      simp [h1, h2, h3]
theorem nr_eq {id : Int} {P : List Ins} {ps : List Int} {c : Nat} (hc : c ≤ 1024) : (newP id P c ps).rightB = Prc.rightB ⟨id, P, [], 0, 0, ps⟩ := by
  rw [Bool.eq_iff_iff, rightB_iff, rightB_iff]
  simp [newP, hc]
theorem eqP_zero : eqP ⟨0, [], [], 0, 0, []⟩ ⟨0, [], [], 0, 0, []⟩ = true := rfl
theorem eqP_self (a : Prc) : eqP a a = true := eqP_iff.2 rfl
def cMdN : FuncId → Option Spec := look2 [(34, sClI), (54, sClN), (55, sNewN), (37, sTh14), (56, sRNewN), (58, sTh28), (57, sR28S)]
theorem cMdN_ok : ∀ f S, cMdN f = some S → CallOk Tryz.prog f S := allOk_spec ⟨sClI_ok, sClN_ok, sNewN_ok, sTh14_ok, sRNewN_ok, sTh28_ok, sR28S_ok, trivial⟩
def cMdY : FuncId → Option Spec := look2 [(34, sClI), (54, sClN), (55, sNewY), (37, sTh14), (56, sRNewY), (58, sTh28), (57, sR28S)]
theorem cMdY_ok : ∀ f S, cMdY f = some S → CallOk Tryz.prog f S := allOk_spec ⟨sClI_ok, sClN_ok, sNewY_ok, sTh14_ok, sRNewY_ok, sTh28_ok, sR28S_ok, trivial⟩
theorem made_n (id ci : Int) (P : List Ins) (ps : List Int) (p1 p2 : Nat) (hok : ∀ x ∈ P, x.ok) (h60 : P.length ≤ 60) (h30 : ps.length ≤ 30) (hr : (ci < 0 ∨ 1024 < ci) ∨ (newP id P ci.toNat ps).rightB = false) : LitOk Tryz.prog 20 [.int .i64 id, .sl 1 2 [] 5 0 P.length (some p1), .int .i64 ci, .sl 3 4 [] 1 0 ps.length (some p2)] [.gone, .gone, .ro (.arr P.length 5 (prS P)), .gone, .ro (.arr ps.length 1 (i64S ps))] (.bool true) [.gone] := by
  have hn : P.length ≤ 1000000 := by omega
  have hq : ps.length ≤ 1000000 := by omega
  have g60 : ¬ 60 < P.length := by omega
  have g30 : ¬ 30 < ps.length := by omega
  have hr2 : ci < 0 ∨ 1024 < ci ∨ Prc.rightB ⟨id, P, [], 0, 0, ps⟩ = false := by
    by_cases h : ci < 0
    · exact .inl h
    by_cases h' : 1024 < ci
    · exact .inr (.inl h')
    rcases hr with hr | hr
    · omega
    · exact .inr (.inr (by rw [← nr_eq (c := ci.toNat) (by omega)]; exact hr))
  refine litOkM (fn := Tryz.f20) 5 75 0 rfl rfl rfl rfl rfl (by simp only [StableL, Stable, hp, pcS, i64S, prS, insS, sndsS, sndS, prT, i64O, inO, prO, HB.stable, spI, spN]; simp [HB.born]) rfl fun w0 M E hro => ?_
  repeat' (first | refine Ctl.h ?_ | ((with_reducible intro hif); first | (focus (cases hif; done)) | (simp only [JH] at hif; try (exfalso; omega)) | (try (exfalso; omega))) | ((first | ((with_reducible apply J22 cMdN_ok tab_ok); (· rfl)) | ((with_reducible apply J23 fol cMdN_ok tab_ok); (· rfl)) | with_reducible apply J24); (· (simp only [push_cast, ↓JP, Nat.reduceAdd, Nat.reduceEqDiff, Nat.reduceLT, Nat.reduceMul, Nat.reduceLeDiff, reduceCtorEq, reduceIte, ↓JK, JE, cMdN, sClI, sClN, sTh14, sTh28, sR28S, prO, prT, i64O, inO, pcS, pc0, isI_int, isI_nat, iOf, nat_zero_int, ls_zero, ls_prS, ls_prS', ls_prS2, nodupN, memN, spI_size, spN_size, inR, inN, sNewN, sRNewN, g60, g30, eqP_zero]; rfl)); (try kernel_rfl); (try exact Vm.b124)) | fail)
  have hz : Less (.own 38 (.arr P.length 5 (prS P)) false) (.own 38 (.arr P.length 5 (spI P 0)) false) := less_sp fun β q _ => by unfold spI; simp [ite_eq]
  refine WF.loopAt (fun (j : Nat) => j ≤ P.length) (fun (j : Nat) => [(9, .sl 5 5 [] 5 0 P.length none), (10, .sl 6 6 [] 1 0 ps.length none), (11, .ptr 7 []), (12, .int .i64 281), (13, .ptr 10 []), (14, .int .i64 281), (48, .nat .i64 P.length), (49, .nat .i64 j)]) (fun (j : Nat) => [.gone, .gone, .ro (.arr P.length 5 (prS P)), .gone, .ro (.arr ps.length 1 (i64S ps)), .own 38 (.arr P.length 5 (spI P j)) false, .own 3 (.arr ps.length 1 (i64S ps)) false, .own 67 (.agg [.nat .i64 0, .sl 0 0 [] 0 0 0 (some 0), .sl 0 0 [] 0 0 0 (some 0), .nat .i64 0, .nat .i64 0, .sl 0 0 [] 0 0 0 (some 0)]) true, prT P, inO ps, .own 130 (.agg [.nat .i64 0, .sl 0 0 [] 0 0 0 (some 0), .sl 0 0 [] 0 0 0 (some 0), .nat .i64 0, .nat .i64 0, .sl 0 0 [] 0 0 0 (some 0)]) true]) (fun (j : Nat) => P.length - j) 0 (Nat.zero_le _) ?_ ?_ rfl ?_ ?_ rfl ?_
  · exact Vm.b5
  · exact Vm.b6
  · exact Vm.b120
  · exact Vm.b120
  intro j hj
  by_cases hjl : j < P.length
  · skip
    repeat' (first | refine Ctl.h ?_ | ((with_reducible intro hif); first | (focus (cases hif; done)) | (simp only [JH] at hif; try (exfalso; omega)) | (try (exfalso; omega))) | ((first | ((with_reducible apply J22 cMdN_ok tab_ok); (· rfl)) | ((with_reducible apply J23 fol cMdN_ok tab_ok); (· rfl)) | with_reducible apply J24); (· exact Vm.b125); (try kernel_rfl); (try exact Vm.b124)) | fail)
    refine At.nextPick [0, 1, 2, 3, 4, 5, 6, 7, 8, 9, 10] (j + 1) ?_ rfl rfl rfl ?_ rfl ?_ ?_ ?_ rfl
    · omega
    · exact Vm.b121
    · exact Vm.b120
    · exact Vm.b67
    · exact Vm.b120
  · have hjn : j = P.length := by omega
    repeat' (first | refine Ctl.h ?_ | ((with_reducible intro hif); first | (focus (cases hif; done)) | (simp only [JH] at hif; try (exfalso; omega)) | (try (exfalso; omega))) | ((first | ((with_reducible apply J22 cMdN_ok tab_ok); (· rfl)) | ((with_reducible apply J23 fol cMdN_ok tab_ok); (· rfl)) | with_reducible apply J24); (· exact Vm.b125); (try kernel_rfl); (try exact Vm.b124)) | fail)
    have hz2 : Less (.own 3 (.arr ps.length 1 (i64S ps)) false) (.own 3 (.arr ps.length 1 (spN ps 0)) false) := less_sp fun β q _ => by unfold spN; simp [ite_eq]
    refine WF.loopAt (fun (k : Nat) => k ≤ ps.length) (fun (k : Nat) => [(10, .sl 6 6 [] 1 0 ps.length none), (11, .ptr 7 []), (12, .int .i64 281), (13, .ptr 10 []), (14, .int .i64 281), (58, .nat .i64 ps.length), (59, .nat .i64 k)]) (fun (k : Nat) => [.gone, .gone, .ro (.arr P.length 5 (prS P)), .gone, .ro (.arr ps.length 1 (i64S ps)), .own 38 (.arr P.length 5 (spI P j)) false, .own 3 (.arr ps.length 1 (spN ps k)) false, .own 67 (.agg [.nat .i64 0, .sl 0 0 [] 0 0 0 (some 0), .sl 0 0 [] 0 0 0 (some 0), .nat .i64 0, .nat .i64 0, .sl 0 0 [] 0 0 0 (some 0)]) true, prT P, inO ps, .own 130 (.agg [.nat .i64 0, .sl 0 0 [] 0 0 0 (some 0), .sl 0 0 [] 0 0 0 (some 0), .nat .i64 0, .nat .i64 0, .sl 0 0 [] 0 0 0 (some 0)]) true]) (fun (k : Nat) => ps.length - k) 0 (Nat.zero_le _) ?_ ?_ rfl ?_ ?_ rfl ?_
    · exact Vm.b5
    · exact Vm.b6
    · exact Vm.b120
    · exact Vm.b120
    intro k hk
    by_cases hkl : k < ps.length
    · skip
      repeat' (first | refine Ctl.h ?_ | ((with_reducible intro hif); first | (focus (cases hif; done)) | (simp only [JH] at hif; try (exfalso; omega)) | (try (exfalso; omega))) | ((first | ((with_reducible apply J22 cMdN_ok tab_ok); (· rfl)) | ((with_reducible apply J23 fol cMdN_ok tab_ok); (· rfl)) | with_reducible apply J24); (· exact Vm.b126); (try kernel_rfl); (try exact Vm.b124)) | fail)
      refine At.nextPick [0, 1, 2, 3, 4, 5, 6, 7, 8, 9, 10] (k + 1) ?_ rfl rfl rfl ?_ rfl ?_ ?_ ?_ rfl
      · omega
      · exact Vm.b122
      · exact Vm.b120
      · exact Vm.b67
      · exact Vm.b120
    · have hkn : k = ps.length := by omega
      repeat' (first | refine Ctl.h ?_ | ((with_reducible intro hif); first | (focus (cases hif; done)) | (simp only [JH] at hif; try (exfalso; omega)) | (try (exfalso; omega))) | ((first | ((with_reducible apply J22 cMdN_ok tab_ok); (· rfl)) | ((with_reducible apply J23 fol cMdN_ok tab_ok); (· rfl)) | with_reducible apply J24); (· exact Vm.b126); (try kernel_rfl); (try exact Vm.b124)) | fail)
      apply At.endsRet tab_ok (fn := Tryz.f20) (rs := [.tmp 8]) Anc.refl hro (Nat.le_of_ble_eq_true rfl) rfl
      · exact Vm.b11
      · exact Vm.b9
      · exact Vm.b6
      · rfl
      · exact Vm.b120
      · exact Vm.b10
      · exact fun β => rfl
      · exact Vm.b120
theorem made_y (id ci : Int) (P : List Ins) (ps : List Int) (p1 p2 : Nat) (hok : ∀ x ∈ P, x.ok) (h60 : P.length ≤ 60) (h30 : ps.length ≤ 30) (h0 : 0 ≤ ci) (h1 : ci ≤ 1024) (hr : (newP id P ci.toNat ps).rightB = true) : LitOk Tryz.prog 20 [.int .i64 id, .sl 1 2 [] 5 0 P.length (some p1), .int .i64 ci, .sl 3 4 [] 1 0 ps.length (some p2)] [.gone, .gone, .ro (.arr P.length 5 (prS P)), .gone, .ro (.arr ps.length 1 (i64S ps))] (.bool true) [.gone] := by
  have hn : P.length ≤ 1000000 := by omega
  have hq : ps.length ≤ 1000000 := by omega
  have g60 : ¬ 60 < P.length := by omega
  have g30 : ¬ 30 < ps.length := by omega
  have hr2 : Prc.rightB ⟨id, P, [], 0, 0, ps⟩ = true := by rw [← nr_eq (c := ci.toNat) (by omega)]; exact hr
  obtain ⟨C, hCC⟩ : ∃ x : List Int, List.replicate ci.toNat 0 = x := ⟨_, rfl⟩
  have hCl : ci.toNat = C.length := by rw [← hCC, List.length_replicate]
  have hC : List.replicate C.length (0 : Int) = C := by rw [← hCl]; exact hCC
  have hC9 : C.length ≤ 1000000 := by omega
  have hN : newP id P C.length ps = ⟨id, P, C, 0, 0, ps⟩ := by unfold newP; rw [hC]
  have hr1 : Prc.rightB ⟨id, P, C, 0, 0, ps⟩ = true := by rw [← hN, ← hCl]; exact hr
  clear hCC hr
  refine litOkM (fn := Tryz.f20) 5 75 0 rfl rfl rfl rfl rfl (by simp only [StableL, Stable, hp, pcS, i64S, prS, insS, sndsS, sndS, prT, i64O, inO, prO, HB.stable, spI, spN]; simp [HB.born]) rfl fun w0 M E hro => ?_
  repeat' (first | refine Ctl.h ?_ | ((with_reducible intro hif); first | (focus (cases hif; done)) | (simp only [JH] at hif; try (exfalso; omega)) | (try (exfalso; omega))) | ((first | ((with_reducible apply J22 cMdY_ok tab_ok); (· rfl)) | ((with_reducible apply J23 fol cMdY_ok tab_ok); (· rfl)) | with_reducible apply J24); (· (simp only [push_cast, ↓JP, Nat.reduceAdd, Nat.reduceEqDiff, Nat.reduceLT, Nat.reduceMul, Nat.reduceLeDiff, reduceCtorEq, reduceIte, ↓JK, JE, cMdY, sClI, sClN, sTh14, sTh28, sR28S, prO, prT, i64O, inO, pcS, pc0, isI_int, isI_nat, iOf, nat_zero_int, ls_zero, ls_prS, ls_prS', ls_prS2, nodupN, memN, spI_size, spN_size, inR, inN, sNewY, sRNewY, g60, g30, hCl, hC, hN, eqP_self, ls_i64S, ls_i64S', ls_i64S2]; rfl)); (try kernel_rfl); (try exact Vm.b127)) | fail)
  have hz : Less (.own 38 (.arr P.length 5 (prS P)) false) (.own 38 (.arr P.length 5 (spI P 0)) false) := less_sp fun β q _ => by unfold spI; simp [ite_eq]
  refine WF.loopAt (fun (j : Nat) => j ≤ P.length) (fun (j : Nat) => [(9, .sl 5 5 [] 5 0 P.length none), (10, .sl 6 6 [] 1 0 ps.length none), (11, .ptr 10 []), (12, .int .i64 0), (13, .ptr 14 []), (14, .int .i64 0), (48, .nat .i64 P.length), (49, .nat .i64 j)]) (fun (j : Nat) => [.gone, .gone, .ro (.arr P.length 5 (prS P)), .gone, .ro (.arr ps.length 1 (i64S ps)), .own 38 (.arr P.length 5 (spI P j)) false, .own 3 (.arr ps.length 1 (i64S ps)) false, prO P, i64O C, inO ps, .own 67 (.agg [.int .i64 id, .sl 7 7 [] 5 0 P.length none, .sl 8 8 [] 1 0 C.length none, .int .i64 0, .int .i64 0, .sl 9 9 [] 1 0 ps.length none]) true, prT P, inO ps, i64O C, .own 130 (.agg [.int .i64 id, .sl 11 11 [] 5 0 P.length none, .sl 13 13 [] 1 0 C.length none, .nat .i64 0, .nat .i64 0, .sl 12 12 [] 1 0 ps.length none]) true]) (fun (j : Nat) => P.length - j) 0 (Nat.zero_le _) ?_ ?_ rfl ?_ ?_ rfl ?_
  · exact Vm.b5
  · exact Vm.b6
  · exact Vm.b120
  · exact Vm.b120
  intro j hj
  by_cases hjl : j < P.length
  · skip
    repeat' (first | refine Ctl.h ?_ | ((with_reducible intro hif); first | (focus (cases hif; done)) | (simp only [JH] at hif; try (exfalso; omega)) | (try (exfalso; omega))) | ((first | ((with_reducible apply J22 cMdY_ok tab_ok); (· rfl)) | ((with_reducible apply J23 fol cMdY_ok tab_ok); (· rfl)) | with_reducible apply J24); (· exact Vm.b128); (try kernel_rfl); (try exact Vm.b127)) | fail)
    refine At.nextPick [0, 1, 2, 3, 4, 5, 6, 7, 8, 9, 10, 11, 12, 13, 14] (j + 1) ?_ rfl rfl rfl ?_ rfl ?_ ?_ ?_ rfl
    · omega
    · exact Vm.b121
    · exact Vm.b120
    · exact Vm.b67
    · exact Vm.b120
  · have hjn : j = P.length := by omega
    repeat' (first | refine Ctl.h ?_ | ((with_reducible intro hif); first | (focus (cases hif; done)) | (simp only [JH] at hif; try (exfalso; omega)) | (try (exfalso; omega))) | ((first | ((with_reducible apply J22 cMdY_ok tab_ok); (· rfl)) | ((with_reducible apply J23 fol cMdY_ok tab_ok); (· rfl)) | with_reducible apply J24); (· exact Vm.b128); (try kernel_rfl); (try exact Vm.b127)) | fail)
    have hz2 : Less (.own 3 (.arr ps.length 1 (i64S ps)) false) (.own 3 (.arr ps.length 1 (spN ps 0)) false) := less_sp fun β q _ => by unfold spN; simp [ite_eq]
    refine WF.loopAt (fun (k : Nat) => k ≤ ps.length) (fun (k : Nat) => [(10, .sl 6 6 [] 1 0 ps.length none), (11, .ptr 10 []), (12, .int .i64 0), (13, .ptr 14 []), (14, .int .i64 0), (58, .nat .i64 ps.length), (59, .nat .i64 k)]) (fun (k : Nat) => [.gone, .gone, .ro (.arr P.length 5 (prS P)), .gone, .ro (.arr ps.length 1 (i64S ps)), .own 38 (.arr P.length 5 (spI P j)) false, .own 3 (.arr ps.length 1 (spN ps k)) false, prO P, i64O C, inO ps, .own 67 (.agg [.int .i64 id, .sl 7 7 [] 5 0 P.length none, .sl 8 8 [] 1 0 C.length none, .int .i64 0, .int .i64 0, .sl 9 9 [] 1 0 ps.length none]) true, prT P, inO ps, i64O C, .own 130 (.agg [.int .i64 id, .sl 11 11 [] 5 0 P.length none, .sl 13 13 [] 1 0 C.length none, .nat .i64 0, .nat .i64 0, .sl 12 12 [] 1 0 ps.length none]) true]) (fun (k : Nat) => ps.length - k) 0 (Nat.zero_le _) ?_ ?_ rfl ?_ ?_ rfl ?_
    · exact Vm.b5
    · exact Vm.b6
    · exact Vm.b120
    · exact Vm.b120
    intro k hk
    by_cases hkl : k < ps.length
    · skip
      repeat' (first | refine Ctl.h ?_ | ((with_reducible intro hif); first | (focus (cases hif; done)) | (simp only [JH] at hif; try (exfalso; omega)) | (try (exfalso; omega))) | ((first | ((with_reducible apply J22 cMdY_ok tab_ok); (· rfl)) | ((with_reducible apply J23 fol cMdY_ok tab_ok); (· rfl)) | with_reducible apply J24); (· exact Vm.b129); (try kernel_rfl); (try exact Vm.b127)) | fail)
      refine At.nextPick [0, 1, 2, 3, 4, 5, 6, 7, 8, 9, 10, 11, 12, 13, 14] (k + 1) ?_ rfl rfl rfl ?_ rfl ?_ ?_ ?_ rfl
      · omega
      · exact Vm.b122
      · exact Vm.b120
      · exact Vm.b67
      · exact Vm.b120
    · have hkn : k = ps.length := by omega
      repeat' (first | refine Ctl.h ?_ | ((with_reducible intro hif); first | (focus (cases hif; done)) | (simp only [JH] at hif; try (exfalso; omega)) | (try (exfalso; omega))) | ((first | ((with_reducible apply J22 cMdY_ok tab_ok); (· rfl)) | ((with_reducible apply J23 fol cMdY_ok tab_ok); (· rfl)) | with_reducible apply J24); (· exact Vm.b129); (try kernel_rfl); (try exact Vm.b127)) | fail)
      apply At.endsRet tab_ok (fn := Tryz.f20) (rs := [.tmp 8]) Anc.refl hro (Nat.le_of_ble_eq_true rfl) rfl
      · exact Vm.b11
      · exact Vm.b9
      · exact Vm.b6
      · rfl
      · exact Vm.b120
      · exact Vm.b10
      · exact fun β => rfl
      · exact Vm.b120
theorem made_lit (id ci : Int) (P : List Ins) (ps : List Int) (p1 p2 : Nat) (hok : ∀ x ∈ P, x.ok) : LitOk Tryz.prog 20 [.int .i64 id, .sl 1 2 [] 5 0 P.length (some p1), .int .i64 ci, .sl 3 4 [] 1 0 ps.length (some p2)] [.gone, .gone, .ro (.arr P.length 5 (prS P)), .gone, .ro (.arr ps.length 1 (i64S ps))] (.bool true) [.gone] := by
  by_cases h60 : 60 < P.length
  · refine litOkM (fn := Tryz.f20) 5 75 0 rfl rfl rfl rfl rfl (by simp only [StableL, Stable, hp, pcS, i64S, prS, insS, sndsS, sndS, prT, i64O, inO, prO, HB.stable, spI, spN]; simp [HB.born]) rfl fun w0 M E hro => ?_
    repeat' (first | refine Ctl.h ?_ | ((with_reducible intro hif); first | (focus (cases hif; done)) | (simp only [JH] at hif; try (exfalso; omega)) | (try (exfalso; omega))) | ((first | ((with_reducible apply J22 c1_ok tab_ok); (· rfl)) | ((with_reducible apply J23 fol c1_ok tab_ok); (· rfl)) | with_reducible apply J24); (· (simp only [push_cast, ↓JP, Nat.reduceAdd, Nat.reduceEqDiff, Nat.reduceLT, Nat.reduceMul, Nat.reduceLeDiff, reduceCtorEq, reduceIte, ↓JK, h60]; rfl)); (try kernel_rfl); (try exact Vm.b12)) | fail)
    apply At.endsRet tab_ok (fn := Tryz.f20) (rs := [.tmp 8]) Anc.refl hro (Nat.le_of_ble_eq_true rfl) rfl
    · exact Vm.b11
    · exact Vm.b9
    · exact Vm.b6
    · rfl
    · exact Vm.b120
    · exact Vm.b10
    · exact fun β => rfl
    · exact Vm.b120
  by_cases h30 : 30 < ps.length
  · refine litOkM (fn := Tryz.f20) 5 75 0 rfl rfl rfl rfl rfl (by simp only [StableL, Stable, hp, pcS, i64S, prS, insS, sndsS, sndS, prT, i64O, inO, prO, HB.stable, spI, spN]; simp [HB.born]) rfl fun w0 M E hro => ?_
    repeat' (first | refine Ctl.h ?_ | ((with_reducible intro hif); first | (focus (cases hif; done)) | (simp only [JH] at hif; try (exfalso; omega)) | (try (exfalso; omega))) | ((first | ((with_reducible apply J22 c1_ok tab_ok); (· rfl)) | ((with_reducible apply J23 fol c1_ok tab_ok); (· rfl)) | with_reducible apply J24); (· (simp only [push_cast, ↓JP, Nat.reduceAdd, Nat.reduceEqDiff, Nat.reduceLT, Nat.reduceMul, Nat.reduceLeDiff, reduceCtorEq, reduceIte, ↓JK, h60, h30]; rfl)); (try kernel_rfl); (try exact Vm.b12)) | fail)
    apply At.endsRet tab_ok (fn := Tryz.f20) (rs := [.tmp 8]) Anc.refl hro (Nat.le_of_ble_eq_true rfl) rfl
    · exact Vm.b11
    · exact Vm.b9
    · exact Vm.b6
    · rfl
    · exact Vm.b120
    · exact Vm.b10
    · exact fun β => rfl
    · exact Vm.b120
  by_cases hr : (ci < 0 ∨ 1024 < ci) ∨ (newP id P ci.toNat ps).rightB = false
  · exact made_n id ci P ps p1 p2 hok (by omega) (by omega) hr
  · have hb : (newP id P ci.toNat ps).rightB = true := by
      cases h : (newP id P ci.toNat ps).rightB
      · exact absurd (.inr h) hr
      · rfl
    have hc : ¬ (ci < 0 ∨ 1024 < ci) := fun h => hr (.inl h)
    exact made_y id ci P ps p1 p2 hok (by omega) (by omega) (by omega) (by omega) hb
def sMade : Spec := fun args h m => match args with
  | [v1, v2, v3, v4] => match srcV h 5 (.tup []) v2, srcV h 1 (.tup []) v4 with
    | some (c2, n2, f2, r2), some (c4, n4, f4, r4) => bif isI .i64 v1 && isI .i64 v3 then some (c2 ∧ c4 ∧ (∀ q, q < n2 → isIns (f2 q) = true) ∧ (∀ q, q < n4 → isI .i64 (f4 q) = true) ∧ ((∀ x ∈ (ls insOf n2 f2), x.ok)), .bool true, r2 ++ r4, []) else none
    | _, _ => none
  | _ => none
theorem sMade_ok : CallOk Tryz.prog 20 sMade := by
  refine ⟨named_spec (by kernel_rfl), fun args h m c v rd wr hs hm hc w0 M β h' w R hrd hwr hst => ?_⟩
  unfold sMade at hs
  split at hs
  · rename_i v1 v2 v3 v4
    split at hs
    · rename_i c2 n2 f2 r2 c4 n4 f4 r4 a2 a4
      obtain ⟨hb, hs⟩ := bif_some hs
      simp only [Option.some.injEq, Prod.mk.injEq] at hs
      obtain ⟨rfl, rfl, rfl, rfl⟩ := hs
      simp only [Bool.and_eq_true] at hb
      obtain ⟨b1, b3⟩ := hb
      obtain ⟨k2, k4, g2, g4, y1⟩ := hc
      obtain ⟨A2, p2, d2, e2, t2⟩ := reads_src R a2 k2 (fun i hi => hrd i (List.mem_append_left _ hi)) (by omega)
      obtain ⟨A4, p4, d4, e4, t4⟩ := reads_src R a4 k4 (fun i hi => hrd i (List.mem_append_right _ hi)) (by omega)
      refine callRo (views := [⟨5, (ls insOf n2 f2).length, prS (ls insOf n2 f2), A2, p2⟩, ⟨1, (ls iOf n4 f4).length, i64S (ls iOf n4 f4), A4, p4⟩]) (made_lit (iOf v1) (iOf v3) (ls insOf n2 f2) (ls iOf n4 f4) p2 p4 y1) ?_ R hm hwr ?_ ?_ ?_
      · intro x hx
        simp only [List.mem_cons, List.not_mem_nil, or_false] at hx
        rcases hx with rfl | rfl
        · exact viewIns t2 e2 g2
        · exact viewI64 t4 e4 g4
      · intro β1 hv
        simp only [Vd, ls_length, and_true] at hv
        obtain ⟨z2, z4⟩ := hv
        simp only [denL, aggDen, intDen, natDen, boolDen, ls_length, z2, z4, d2, d4, isI_den b1, isI_den b3]
      · exact Vm.b120
      · exact Vm.b120
    · cases hs
  · cases hs
def cPNw : FuncId → Option Spec := look2 [(20, sMade), (21, sAw28)]
theorem cPNw_ok : ∀ f S, cPNw f = some S → CallOk Tryz.prog f S := allOk_spec ⟨sMade_ok, sAw28_ok, trivial⟩
theorem pnew_lit (id ci : Int) (P : List Ins) (ps : List Int) (p1 p2 : Nat) (hok : ∀ x ∈ P, x.ok) : LitOk Tryz.prog 6 [.int .i64 id, .sl 1 2 [] 5 0 P.length (some p1), .int .i64 ci, .sl 3 4 [] 1 0 ps.length (some p2)] [.gone, .gone, .ro (.arr P.length 5 (prS P)), .gone, .ro (.arr ps.length 1 (i64S ps))] (.bool true) [.gone] := by
  refine litOkM (fn := Tryz.f6) 5 17 0 rfl rfl rfl rfl rfl (by simp only [StableL, Stable, hp, pcS, i64S, prS, insS, sndsS, sndS, prT, i64O, inO, prO, HB.stable, spI, spN]; simp [HB.born]) rfl fun w0 M E hro => ?_
  repeat' (first | refine Ctl.h ?_ | ((with_reducible intro hif); first | (focus (cases hif; done)) | (simp only [JH] at hif; try (exfalso; omega)) | (try (exfalso; omega))) | ((first | ((with_reducible apply J22 cPNw_ok tab_ok); (· rfl)) | ((with_reducible apply J23 fol cPNw_ok tab_ok); (· rfl)) | with_reducible apply J24); (· (simp only [push_cast, ↓JP, Nat.reduceAdd, Nat.reduceEqDiff, Nat.reduceLT, Nat.reduceMul, Nat.reduceLeDiff, reduceCtorEq, reduceIte, ↓JK, JE, cPNw, sMade, sAw28, isI_int, isI_nat, iOf, ls_prS, ls_prS', ls_prS2, inR, inN]; rfl)); (try kernel_rfl); (try exact Vm.b82)) | fail)
  apply At.endsRet tab_ok (fn := Tryz.f6) (rs := [.tmp 8]) Anc.refl hro (Nat.le_of_ble_eq_true rfl) rfl
  · exact Vm.b11
  · exact Vm.b9
  · exact Vm.b6
  · rfl
  · exact Vm.b120
  · exact Vm.b10
  · exact fun β => rfl
  · exact Vm.b120
end Go.Proofs.YtjliakjbdcplcaaGreat.Vm
end
end

import Derived.Test.YtjliakjbdcplcaaG4
import Derived.Test.YtjliakjbdcplcaaG6
import Derived.Test.YtjliakjbdcplcaaProg
import Derived.IntWalk
section
namespace Go.Proofs.Ytjliakjbdcplcaa.Vm
theorem b5 {P : Prop} (h : P := by simp only [push_cast, ↓JP, Nat.reduceAdd, Nat.reduceEqDiff, Nat.reduceLT, Nat.reduceMul, Nat.reduceLeDiff, reduceCtorEq, reduceIte, resV, resV1]; rfl) : P := h
theorem b6 {P : Prop} (h : P := by (first | trivial | (simp only [and_self]; done))) : P := h
theorem b7 {P : Prop} (h : P := by (repeat' (first | exact trivial | exact .same _ | exact .dead _ | exact .gone rfl | exact .loose | assumption | exact .arr (by assumption) | apply And.intro))) : P := h
theorem b8 {P : Prop} (h : P := by (repeat' (first | exact trivial | exact rfl | assumption | apply Stable.ite | apply And.intro | intro _ | (simp only [Stable, StableL, i64S, prS, insS, sndsS, sndS]; done)))) : P := h
theorem b9 {P : Prop} (h : P := by (repeat' (first | exact trivial | exact .inl rfl | exact .inr rfl | exact rfl | apply And.intro))) : P := h
theorem b10 {P : Prop} (h : P := by ((repeat' (first | exact trivial | apply And.intro)) <;> (first | rfl | (simp only [look, cond_true, cond_false]; done)))) : P := h
theorem b11 {P : Prop} (h : P := by refine ⟨⟨by omega, fun q hq' => ?_⟩, by omega⟩; by_cases e : q = j; (rw [e]; exact hq); exact heq q (by omega)) : P := h
theorem b12 {P : Prop} (h : P := by simp only [push_cast, ↓JP, Nat.reduceAdd, Nat.reduceEqDiff, Nat.reduceLT, Nat.reduceMul, Nat.reduceLeDiff, reduceCtorEq, reduceIte, ↓JK, resV, resV1]; rfl) : P := h
theorem b13 {P : Prop} (h : P := by (repeat' (first | exact trivial | exact rfl | assumption | apply Stable.ite | apply And.intro | intro _ | (simp only [Stable, StableL, i64S, prS, insS, sndsS, sndS, stS, evS, macS]; done)))) : P := h
theorem b14 {P : Prop} (h : P := by (focus (first | exact True.intro | ((try simp only [JS, implies_true, forall_const, shaped, shapedL, kndOf]); (repeat' (first | assumption | exact True.intro | omega | apply And.intro)); done)))) : P := h
theorem b15 {P : Prop} (h : P := by (repeat' (first | exact trivial | exact .inl rfl | exact .inr (.same _) | exact .inr .loose | exact .inr (.arr (by assumption)) | apply And.intro | (exact .inr (.same _)) | (refine .inr (less_mac _ _ _ ?_ ?_ ?_ ?_ ?_ ?_ ?_ ?_) <;> first | rfl | (intro q _ β; rfl) | omega | simp) | (refine .inr (less_set _ _ _ ?_ ?_) <;> first | rfl | (intro q _ β; rfl) | omega | simp)))) : P := h
theorem b16 {P : Prop} (h : P := by (first | exact True.intro | ((try simp only [JS, implies_true, forall_const, shaped, shapedL, kndOf]); (repeat' (first | assumption | exact True.intro | omega | apply And.intro)); done))) : P := h
theorem b17 {P : Prop} (h : P := by (simp only [push_cast, ↓JP, Nat.reduceAdd, Nat.reduceEqDiff, Nat.reduceLT, Nat.reduceMul, Nat.reduceLeDiff, reduceCtorEq, reduceIte]; rfl)) : P := h
theorem b18 {P : Prop} (h : P := by (first | exact True.intro | ((try simp only [JS, implies_true, forall_const, shaped, shapedL, kndOf, inN]); (repeat' (first | assumption | exact True.intro | omega | apply And.intro)); done))) : P := h
theorem b19 {P : Prop} (h : P := by (first | exact True.intro | ((try simp only [JS, implies_true, forall_const, shaped, shapedL, kndOf, inR]); (repeat' (first | assumption | exact True.intro | omega | apply And.intro)); done))) : P := h
theorem b20 {P : Prop} (h : P := by (simp only [push_cast, ↓JP, Nat.reduceAdd, Nat.reduceEqDiff, Nat.reduceLT, Nat.reduceMul, Nat.reduceLeDiff, reduceCtorEq, reduceIte, ↓JK, JM, inR]; rfl)) : P := h
theorem b21 {P : Prop} (h : P := by (first | exact True.intro | ((try simp only [JS, implies_true, forall_const, shaped, shapedL, kndOf, inR, inN]); (repeat' (first | assumption | exact True.intro | omega | apply And.intro)); done))) : P := h
theorem b22 {P : Prop} (h : P := by (simp only [push_cast, ↓JP, Nat.reduceAdd, Nat.reduceEqDiff, Nat.reduceLT, Nat.reduceMul, Nat.reduceLeDiff, reduceCtorEq, reduceIte, ↓JK, JM, inR, inN, Bool.cond_decide]; rfl)) : P := h
theorem b23 {P : Prop} (h : P := by (simp only [push_cast, ↓JP, Nat.reduceAdd, Nat.reduceEqDiff, Nat.reduceLT, Nat.reduceMul, Nat.reduceLeDiff, reduceCtorEq, reduceIte, ↓JK, JM, cM1, rS, mS, macP, aF, bF, cF, putF, jumpIfF, sApply, sDraw, JE, inR, inN, Bool.cond_decide]; rfl)) : P := h
theorem b24 {P : Prop} (h : P := by (simp only [push_cast, ↓JP, Nat.reduceAdd, Nat.reduceEqDiff, Nat.reduceLT, Nat.reduceMul, Nat.reduceLeDiff, reduceCtorEq, reduceIte, ↓JK, JM, cM1, rS, mS, macP, aF, bF, cF, putF, jumpIfF, sApply, sDraw, JE, inR, inN, Bool.cond_decide, decide_eq_true_eq]; rfl)) : P := h
theorem b25 {P : Prop} (h : P := by (simp only [push_cast, ↓JP, Nat.reduceAdd, Nat.reduceEqDiff, Nat.reduceLT, Nat.reduceMul, Nat.reduceLeDiff, reduceCtorEq, reduceIte, ↓JK, JM, cM1, rS, mS, macP, aF, bF, cF, putF, jumpIfF, sApply, sDraw, JE, inR, inN, Bool.cond_decide, h1, h2]; rfl)) : P := h
theorem b26 {P : Prop} (h : P := by (simp only [push_cast, ↓JP, Nat.reduceAdd, Nat.reduceEqDiff, Nat.reduceLT, Nat.reduceMul, Nat.reduceLeDiff, reduceCtorEq, reduceIte, ↓JK, JM, cM1, rS, mS, macP, aF, bF, cF, putF, jumpIfF, sApply, sDraw, JE, inR, inN, Bool.cond_decide, hw]; rfl)) : P := h
theorem b27 {P : Prop} (h : P := by (simp only [push_cast, ↓JP, Nat.reduceAdd, Nat.reduceEqDiff, Nat.reduceLT, Nat.reduceMul, Nat.reduceLeDiff, reduceCtorEq, reduceIte, ↓JK, JM, cM1, rS, mS, macP, aF, bF, cF, putF, jumpIfF, sApply, sDraw, JE, inR, inN, Bool.cond_decide, q0]; rfl)) : P := h
theorem b28 {P : Prop} (h : P := by (simp only [push_cast, ↓JP, Nat.reduceAdd, Nat.reduceEqDiff, Nat.reduceLT, Nat.reduceMul, Nat.reduceLeDiff, reduceCtorEq, reduceIte, ↓JK, JM, cM1, rS, mS, macP, aF, bF, cF, putF, jumpIfF, sApply, sDraw, JE, inR, inN, Bool.cond_decide, q0, q1]; rfl)) : P := h
theorem b29 {P : Prop} (h : P := by (first | exact True.intro | ((try simp only [JS, implies_true, forall_const, shaped, shapedL, kndOf, inR, inN]); (first | first | omega | exact ⟨R, S⟩ | (repeat' (first | assumption | exact True.intro | omega | apply And.intro))); done))) : P := h
theorem b30 {P : Prop} (h : P := by (simp only [push_cast, ↓JP, Nat.reduceAdd, Nat.reduceEqDiff, Nat.reduceLT, Nat.reduceMul, Nat.reduceLeDiff, reduceCtorEq, reduceIte, ↓JK, JM, cM2, rS, mS, macP, aF, bF, cF, putF, jumpIfF, sApply, sDraw, JE, inR, inN, Bool.cond_decide, cellF, hcb]; rfl)) : P := h
end Go.Proofs.Ytjliakjbdcplcaa.Vm
end
section
namespace Go.Proofs.Ytjliakjbdcplcaa.Vm
open Go.RowKit
attribute [local push_cast] runR opG gtmp gval gus opX tmpsOf tm tmO tmP restr look look2 tab tys zs ets eqB eqBL allB numOf ieq Int.cast_ofNat_Int Int.ofNat_zero beq_true beq_false frameOf ev evL ofV opV loadV noW pushF wrsL setH allBorn allGone HB.born HB.isGone HB.val SV.plain dstOk hp nav fitsT SV.size sizeL SV.isAgg TK.size TK.agg bin binE binN binI arN arI cmpN cmpI keq kn narrow callV storeV setp fillV buildV buildSliceV makeV sliceV appendV copyV List.isEmpty_nil srcV evO asN ite_t ite_f ite_bool ite_int ite_nat maxV v_beq v_ble v_blt cond_true cond_false List.getElem?_cons_zero List.getElem?_cons_succ List.getD_cons_zero List.getD_cons_succ List.getD_nil List.length_cons List.length_nil List.take_succ_cons List.take_zero List.set_cons_zero List.set_cons_succ List.cons_append List.nil_append List.append_assoc List.replicate_succ List.replicate_zero Nat.zero_add Nat.add_zero decide_true decide_false Bool.true_and Bool.and_true Bool.false_and Bool.and_false Bool.true_or Bool.or_true Bool.false_or Bool.or_false beq_self_eq_true Bool.or_self Nat.lt_irrefl Nat.not_lt_zero Nat.le_refl Option.getD_some Option.getD_none BEq.rfl Bool.not_true Bool.not_false Bool.cond_true_left Bool.cond_false_right
set_option linter.unusedVariables false
set_option linter.unusedSimpArgs false
set_option maxRecDepth 100000
set_option maxHeartbeats 4000000
theorem ext_getD {α : Type} {xs ys : List α} (d : α) (hl : xs.length = ys.length) (h : ∀ q, q < xs.length → xs.getD q d = ys.getD q d) : xs = ys := by
  apply List.ext_getElem hl
  intro q h1 h2
  have := h q h1
  simpa [List.getD_eq_getElem?_getD, List.getElem?_eq_getElem h1, List.getElem?_eq_getElem h2] using this
theorem snd_ext {a b : Snd} (h1 : a.port = b.port) (h2 : a.delay = b.delay) (h3 : a.value = b.value) : a = b := by cases a; cases b; simp_all
def eqL {α : Type} [DecidableEq α] (xs ys : List α) : Bool := decide (xs = ys)
theorem eqL_true {α : Type} [DecidableEq α] {xs ys : List α} (h : xs = ys) : eqL xs ys = true := by unfold eqL; simp [h]
theorem eqL_false {α : Type} [DecidableEq α] {xs ys : List α} (h : xs ≠ ys) : eqL xs ys = false := by unfold eqL; simp [h]
theorem eqSnd_lit (xs ys : List Snd) (p1 p2 : Nat) (hx : xs.length ≤ 281474976710656) : LitOk Try.prog 21 [.sl 1 2 [] 3 0 xs.length (some p1), .sl 3 4 [] 3 0 ys.length (some p2)] [.gone, .gone, .ro (.arr xs.length 3 (sndsS xs)), .gone, .ro (.arr ys.length 3 (sndsS ys))] (.bool (eqL xs ys)) [.gone] := by
  refine litOkM (fn := Try.f21) 5 26 0 rfl rfl rfl rfl rfl (by simp only [StableL, Stable, hp]; simp [HB.born]) rfl fun w0 M E hro => ?_
  repeat' (first | with_reducible (first | apply J1 | apply J3 | apply J4 | apply J5 | apply J6 | apply J7 | apply J8 | apply J9 | apply J10 | apply J11 | apply J12 | apply J13 | apply J14 | apply J15 | apply J16 | apply J17 | apply J18 | apply J19 | apply J20 | refine J2 ?_) | ((with_reducible apply J21); (· rfl)) | ((with_reducible intro hif); first | (focus (cases hif; done)) | (simp only [JH] at hif; try (exfalso; omega)) | (try (exfalso; omega))) | ((first | ((with_reducible apply J22 c1_ok tab_ok); (· rfl)) | ((with_reducible apply J23 fol c1_ok tab_ok); (· rfl)) | with_reducible apply J24); (· exact Vm.b17); (try kernel_rfl); (try exact Vm.b16)) | fail)
  · have hne : xs ≠ ys := fun e => hif (by rw [e])
    apply At.endsRet tab_ok (fn := Try.f21) (rs := [.tmp 4]) Anc.refl hro (Nat.le_of_ble_eq_true rfl) rfl
    · exact Vm.b5
    · exact Vm.b6
    · exact Vm.b7
    · rfl
    · exact Vm.b8
    · exact Vm.b9
    · rw [eqL_false hne]; exact fun β => rfl
    · exact Vm.b8
  · refine WF.loopAt (fun j => j ≤ xs.length ∧ ∀ q, q < j → xs.getD q ⟨0, 0, 0⟩ = ys.getD q ⟨0, 0, 0⟩) (fun j => [(0, .sl 1 2 [] 3 0 xs.length (some p1)), (1, .sl 3 4 [] 3 0 ys.length (some p2)), (12, .nat .i64 xs.length), (13, .nat .i64 j)]) (fun j => [.gone, .gone, .ro (.arr xs.length 3 (sndsS xs)), .gone, .ro (.arr ys.length 3 (sndsS ys))]) (fun j => xs.length - j) 0 ⟨Nat.zero_le _, fun q hq => absurd hq (Nat.not_lt_zero q)⟩ ?_ ?_ rfl ?_ ?_ rfl ?_
    · exact Vm.b10
    · exact Vm.b7
    · exact Vm.b8
    · exact Vm.b8
    have hlen := hif
    rintro j ⟨hj, heq⟩
    repeat' (first | with_reducible (first | apply J1 | apply J3 | apply J4 | apply J5 | apply J6 | apply J7 | apply J8 | apply J9 | apply J10 | apply J11 | apply J12 | apply J13 | apply J14 | apply J15 | apply J16 | apply J17 | apply J18 | apply J19 | apply J20 | refine J2 ?_) | ((with_reducible apply J21); (· rfl)) | ((with_reducible intro hif); first | (focus (cases hif; done)) | (simp only [JH] at hif; try (exfalso; omega)) | (try (exfalso; omega))) | ((first | ((with_reducible apply J22 c1_ok tab_ok); (· rfl)) | ((with_reducible apply J23 fol c1_ok tab_ok); (· rfl)) | with_reducible apply J24); (· (simp only [push_cast, ↓JP, Nat.reduceAdd, Nat.reduceEqDiff, Nat.reduceLT, Nat.reduceMul, Nat.reduceLeDiff, reduceCtorEq, reduceIte, sndsS, sndS, inN]; rfl)); (try kernel_rfl); (try exact Vm.b18)) | fail)
    · have hne : xs ≠ ys := by rintro rfl; simp at hif
      apply At.endsRet tab_ok (fn := Try.f21) (rs := [.tmp 4]) Anc.refl hro (Nat.le_of_ble_eq_true rfl) rfl
      · exact Vm.b5
      · exact Vm.b6
      · exact Vm.b7
      · rfl
      · exact Vm.b8
      · exact Vm.b9
      · rw [eqL_false hne]; exact fun β => rfl
      · exact Vm.b8
    · have hq : xs.getD j ⟨0, 0, 0⟩ = ys.getD j ⟨0, 0, 0⟩ := snd_ext (of_decide_eq_true hif.1) (of_decide_eq_true hif.2.1) (of_decide_eq_true hif.2.2)
      refine At.next (j + 1) ?_ ?_ ?_ rfl ?_ ?_ rfl
      · exact Vm.b11
      · exact Vm.b10
      · exact Vm.b7
      · exact Vm.b8
      · exact Vm.b8
    · have hjn : j = xs.length := by omega
      subst hjn
      have he : xs = ys := ext_getD ⟨0, 0, 0⟩ hlen heq
      apply At.endsRet tab_ok (fn := Try.f21) (rs := [.tmp 4]) Anc.refl hro (Nat.le_of_ble_eq_true rfl) rfl
      · exact Vm.b5
      · exact Vm.b6
      · exact Vm.b7
      · rfl
      · exact Vm.b8
      · exact Vm.b9
      · rw [eqL_true he]; exact fun β => rfl
      · exact Vm.b8
def sEqSnd : Spec := fun args h m => match args with
  | [v1, v2] => match srcV h 3 (.tup []) v1, srcV h 3 (.tup []) v2 with
    | some (c1, n1, f1, r1), some (c2, n2, f2, r2) => some (c1 ∧ c2 ∧ (∀ q, q < n1 → isSnd (f1 q) = true) ∧ (∀ q, q < n2 → isSnd (f2 q) = true) ∧ ((ls sndOf n1 f1).length ≤ 281474976710656), .bool (eqL (ls sndOf n1 f1) (ls sndOf n2 f2)), r1 ++ r2, [])
    | _, _ => none
  | _ => none
theorem sEqSnd_ok : CallOk Try.prog 21 sEqSnd := by
  refine ⟨named_spec (by kernel_rfl), fun args h m c v rd wr hs hm hc w0 M β h' w R hrd hwr hst => ?_⟩
  unfold sEqSnd at hs
  split at hs
  · rename_i v1 v2
    split at hs
    · rename_i c1 n1 f1 r1 c2 n2 f2 r2 a1 a2
      simp only [Option.some.injEq, Prod.mk.injEq] at hs
      obtain ⟨rfl, rfl, rfl, rfl⟩ := hs
      obtain ⟨k1, k2, g1, g2, y1⟩ := hc
      obtain ⟨A1, p1, d1, e1, t1⟩ := reads_src R a1 k1 (fun i hi => hrd i (List.mem_append_left _ hi)) (by omega)
      obtain ⟨A2, p2, d2, e2, t2⟩ := reads_src R a2 k2 (fun i hi => hrd i (List.mem_append_right _ hi)) (by omega)
      refine callRo (views := [⟨3, (ls sndOf n1 f1).length, sndsS (ls sndOf n1 f1), A1, p1⟩, ⟨3, (ls sndOf n2 f2).length, sndsS (ls sndOf n2 f2), A2, p2⟩]) (eqSnd_lit (ls sndOf n1 f1) (ls sndOf n2 f2) p1 p2 y1) ?_ R hm hwr ?_ ?_ ?_
      · intro x hx
        simp only [List.mem_cons, List.not_mem_nil, or_false] at hx
        rcases hx with rfl | rfl
        · exact viewSnd t1 e1 g1
        · exact viewSnd t2 e2 g2
      · intro β1 hv
        simp only [Vd, ls_length, and_true] at hv
        obtain ⟨z1, z2⟩ := hv
        simp only [denL, aggDen, intDen, natDen, boolDen, ls_length, z1, z2, d1, d2]
      · exact Vm.b8
      · exact Vm.b8
    · cases hs
  · cases hs
theorem isI_int (k k' : IntKind) (n : Int) : isI k (.int k' n) = keq k k' := rfl
theorem isI_nat (k k' : IntKind) (n : Nat) : isI k (.nat k' n) = keq k k' := rfl
theorem ls_i64S (l : List Int) : ls iOf l.length (i64S l) = l := ls_of (g := iOf) (e := fun x => .int .i64 x) (fun _ => rfl) l 0
theorem ls_i64S' (l : List Int) : ls iOf l.length (fun q => i64S l q) = l := ls_i64S l
theorem ls_prS (l : List Ins) : ls insOf l.length (prS l) = l := ls_of insOf_insS l _
theorem ls_prS' (l : List Ins) : ls insOf l.length (fun q => prS l q) = l := ls_prS l
theorem ls_sndsS (l : List Snd) : ls sndOf l.length (sndsS l) = l := ls_of sndOf_sndS l _
theorem ls_sndsS' (l : List Snd) : ls sndOf l.length (fun q => sndsS l q) = l := ls_sndsS l
end Go.Proofs.Ytjliakjbdcplcaa.Vm
end

section
namespace Go.Proofs.Ytjliakjbdcplcaa.Vm
open Go.RowKit
attribute [local push_cast] runR opG gtmp gval gus opX tmpsOf tm tmO tmP restr look look2 tab tys zs ets eqB eqBL allB numOf ieq Int.cast_ofNat_Int Int.ofNat_zero beq_true beq_false frameOf ev evL ofV opV loadV noW pushF wrsL setH allBorn allGone HB.born HB.isGone HB.val SV.plain dstOk hp nav fitsT SV.size sizeL SV.isAgg TK.size TK.agg bin binE binN binI arN arI cmpN cmpI keq kn narrow callV storeV setp fillV buildV buildSliceV makeV sliceV appendV copyV List.isEmpty_nil srcV evO asN ite_t ite_f ite_bool ite_int ite_nat maxV v_beq v_ble v_blt cond_true cond_false List.getElem?_cons_zero List.getElem?_cons_succ List.getD_cons_zero List.getD_cons_succ List.getD_nil List.length_cons List.length_nil List.take_succ_cons List.take_zero List.set_cons_zero List.set_cons_succ List.cons_append List.nil_append List.append_assoc List.replicate_succ List.replicate_zero Nat.zero_add Nat.add_zero decide_true decide_false Bool.true_and Bool.and_true Bool.false_and Bool.and_false Bool.true_or Bool.or_true Bool.false_or Bool.or_false beq_self_eq_true Bool.or_self Nat.lt_irrefl Nat.not_lt_zero Nat.le_refl Option.getD_some Option.getD_none BEq.rfl Bool.not_true Bool.not_false Bool.cond_true_left Bool.cond_false_right prS sndsS i64S nav_ins nav_ins0 nav_ins1 nav_ins2 nav_ins3 nav_ins4 nav_snd nav_snd0 nav_snd1 nav_snd2 isIns_insS insOf_insS isSnd_sndS sndOf_sndS isI_int isI_nat iOf
set_option linter.unusedVariables false
set_option linter.unusedSimpArgs false
set_option maxRecDepth 100000
set_option maxHeartbeats 4000000
theorem ls_i64S2 (l : List Int) : ls iOf l.length (fun q => .int .i64 (l.getD q 0)) = l := ls_i64S l
theorem ls_sndsS2 (l : List Snd) : ls sndOf l.length (fun q => sndS (l.getD q ⟨0, 0, 0⟩)) = l := ls_sndsS l
theorem ls_prS2 (l : List Ins) : ls insOf l.length (fun q => insS (l.getD q ⟨0, 0, 0, 0, 0⟩)) = l := ls_prS l
def cM0 : FuncId → Option Spec := look2 []
theorem cM0_ok : ∀ f S, cM0 f = some S → CallOk Try.prog f S := fun f S h => by cases h
def aF : RF := fun s v x => some (0 ≤ x.a ∧ x.a < 8, .int .i64 (s.regs x.a.toNat))
def bF : RF := fun s v x => some (0 ≤ x.b ∧ x.b < 8, .int .i64 (s.regs x.b.toNat))
def cF : RF := fun s v x => some (0 ≤ x.c ∧ x.c < 8, .int .i64 (s.regs x.c.toNat))
theorem a_ok : CallOk Try.prog 136 (rS aF) := rS_ok (by kernel_rfl) fun s v x cond val hF hc => by
  cases hF
  obtain ⟨h0, h8⟩ := hc
  have hn : x.a.toNat < 8 := by omega
  refine ⟨fun _ => rfl, fun _ => trivial, ?_⟩
  refine litOkM (fn := Try.f136) 4 14 0 rfl rfl rfl rfl rfl (by simp only [StableL, Stable, hp, i64S, prS, insS, sndsS, sndS, stS, evS, macS]; simp [HB.born, mB, cB, sB]) rfl fun w0 M E hro => ?_
  repeat' (first | with_reducible (first | apply J1 | apply J3 | apply J4 | apply J5 | apply J6 | apply J7 | apply J8 | apply J9 | apply J10 | apply J11 | apply J12 | apply J13 | apply J14 | apply J15 | apply J16 | apply J17 | apply J18 | apply J19 | apply J20 | refine J2 ?_) | ((with_reducible apply J21); (· rfl)) | ((with_reducible intro hif); first | (focus (cases hif; done)) | (simp only [JH] at hif; try (exfalso; omega)) | (try (exfalso; omega))) | ((first | ((with_reducible apply J22 cM0_ok tab_ok); (· rfl)) | ((with_reducible apply J23 fol cM0_ok tab_ok); (· rfl)) | with_reducible apply J24); (· exact Vm.b20); (try kernel_rfl); (try exact Vm.b19)) | fail)
  apply At.endsRet tab_ok (fn := Try.f136) (rs := [.tmp 2]) Anc.refl hro (Nat.le_of_ble_eq_true rfl) rfl
  · exact Vm.b12
  · exact Vm.b6
  · exact Vm.b7
  · rfl
  · exact Vm.b13
  · exact Vm.b9
  · exact fun β => rfl
  · exact Vm.b13
theorem b_ok : CallOk Try.prog 134 (rS bF) := rS_ok (by kernel_rfl) fun s v x cond val hF hc => by
  cases hF
  obtain ⟨h0, h8⟩ := hc
  have hn : x.b.toNat < 8 := by omega
  refine ⟨fun _ => rfl, fun _ => trivial, ?_⟩
  refine litOkM (fn := Try.f134) 4 14 0 rfl rfl rfl rfl rfl (by simp only [StableL, Stable, hp, i64S, prS, insS, sndsS, sndS, stS, evS, macS]; simp [HB.born, mB, cB, sB]) rfl fun w0 M E hro => ?_
  repeat' (first | with_reducible (first | apply J1 | apply J3 | apply J4 | apply J5 | apply J6 | apply J7 | apply J8 | apply J9 | apply J10 | apply J11 | apply J12 | apply J13 | apply J14 | apply J15 | apply J16 | apply J17 | apply J18 | apply J19 | apply J20 | refine J2 ?_) | ((with_reducible apply J21); (· rfl)) | ((with_reducible intro hif); first | (focus (cases hif; done)) | (simp only [JH] at hif; try (exfalso; omega)) | (try (exfalso; omega))) | ((first | ((with_reducible apply J22 cM0_ok tab_ok); (· rfl)) | ((with_reducible apply J23 fol cM0_ok tab_ok); (· rfl)) | with_reducible apply J24); (· exact Vm.b20); (try kernel_rfl); (try exact Vm.b19)) | fail)
  apply At.endsRet tab_ok (fn := Try.f134) (rs := [.tmp 2]) Anc.refl hro (Nat.le_of_ble_eq_true rfl) rfl
  · exact Vm.b12
  · exact Vm.b6
  · exact Vm.b7
  · rfl
  · exact Vm.b13
  · exact Vm.b9
  · exact fun β => rfl
  · exact Vm.b13
theorem c_ok : CallOk Try.prog 139 (rS cF) := rS_ok (by kernel_rfl) fun s v x cond val hF hc => by
  cases hF
  obtain ⟨h0, h8⟩ := hc
  have hn : x.c.toNat < 8 := by omega
  refine ⟨fun _ => rfl, fun _ => trivial, ?_⟩
  refine litOkM (fn := Try.f139) 4 14 0 rfl rfl rfl rfl rfl (by simp only [StableL, Stable, hp, i64S, prS, insS, sndsS, sndS, stS, evS, macS]; simp [HB.born, mB, cB, sB]) rfl fun w0 M E hro => ?_
  repeat' (first | with_reducible (first | apply J1 | apply J3 | apply J4 | apply J5 | apply J6 | apply J7 | apply J8 | apply J9 | apply J10 | apply J11 | apply J12 | apply J13 | apply J14 | apply J15 | apply J16 | apply J17 | apply J18 | apply J19 | apply J20 | refine J2 ?_) | ((with_reducible apply J21); (· rfl)) | ((with_reducible intro hif); first | (focus (cases hif; done)) | (simp only [JH] at hif; try (exfalso; omega)) | (try (exfalso; omega))) | ((first | ((with_reducible apply J22 cM0_ok tab_ok); (· rfl)) | ((with_reducible apply J23 fol cM0_ok tab_ok); (· rfl)) | with_reducible apply J24); (· exact Vm.b20); (try kernel_rfl); (try exact Vm.b19)) | fail)
  apply At.endsRet tab_ok (fn := Try.f139) (rs := [.tmp 2]) Anc.refl hro (Nat.le_of_ble_eq_true rfl) rfl
  · exact Vm.b12
  · exact Vm.b6
  · exact Vm.b7
  · rfl
  · exact Vm.b13
  · exact Vm.b9
  · exact fun β => rfl
  · exact Vm.b13
def putF : MF := fun ar s v x => match ar with
  | [.int .i64 n] => some (0 ≤ x.a ∧ x.a < 8 ∧ 0 ≤ s.at_ ∧ s.at_ ≤ 256, fun _ => .int .i64 0, s.put x.a.toNat n, x, false)
  | _ => none
theorem put_ok : CallOk Try.prog 133 (mS putF) := mS_ok (by kernel_rfl) fun ar s v x cond val s' x' mv hF hc => by
  unfold putF at hF
  split at hF
  · cases hF
    obtain ⟨h0, h8, a0, a1⟩ := hc
    have hn : x.a.toNat < 8 := by omega
    refine ⟨fun _ => rfl, fun _ => ⟨trivial, trivial⟩, fun _ _ => rfl, fun _ _ _ => trivial, ?_⟩
    refine litOkM (fn := Try.f133) 4 25 0 rfl rfl rfl rfl rfl (by simp only [StableL, Stable, hp, i64S, prS, insS, sndsS, sndS, stS, evS, macS]; simp [HB.born, mB, cB, sB]) rfl fun w0 M E hro => ?_
    repeat' (first | with_reducible (first | apply J1 | apply J3 | apply J4 | apply J5 | apply J6 | apply J7 | apply J8 | apply J9 | apply J10 | apply J11 | apply J12 | apply J13 | apply J14 | apply J15 | apply J16 | apply J17 | apply J18 | apply J19 | apply J20 | refine J2 ?_) | ((with_reducible apply J21); (· rfl)) | ((with_reducible intro hif); first | (focus (cases hif; done)) | (simp only [JH] at hif; try (exfalso; omega)) | (try (exfalso; omega))) | ((first | ((with_reducible apply J22 cM0_ok tab_ok); (· rfl)) | ((with_reducible apply J23 fol cM0_ok tab_ok); (· rfl)) | with_reducible apply J24); (· exact Vm.b22); (try kernel_rfl); (try exact Vm.b21)) | fail)
    apply At.endsRet tab_ok (fn := Try.f133) (rs := [.tmp 4]) Anc.refl hro (Nat.le_of_ble_eq_true rfl) rfl
    · exact Vm.b12
    · exact Vm.b6
    · exact Vm.b7
    · rfl
    · exact Vm.b13
    · exact Vm.b9
    · exact fun β => rfl
    · exact Vm.b13
  · cases hF
def jumpIfF : MF := fun ar s v x => match ar with
  | [.bool is] => some (0 ≤ s.at_ ∧ s.at_ ≤ 256 ∧ 0 ≤ x.n ∧ x.n < 256, fun _ => .int .i64 0, { s with at_ := if is = true then x.n else s.at_ + 1 }, x, false)
  | _ => none
theorem jumpIf_ok : CallOk Try.prog 138 (mS jumpIfF) := mS_ok (by kernel_rfl) fun ar s v x cond val s' x' mv hF hc => by
  unfold jumpIfF at hF
  split at hF
  · rename_i is
    cases hF
    obtain ⟨a0, a1, n0, n1⟩ := hc
    refine ⟨fun _ => rfl, fun _ => ⟨trivial, trivial⟩, fun _ _ => rfl, fun _ _ _ => trivial, ?_⟩
    cases is
    · refine litOkM (fn := Try.f138) 4 24 0 rfl rfl rfl rfl rfl (by simp only [StableL, Stable, hp, i64S, prS, insS, sndsS, sndS, stS, evS, macS]; simp [HB.born, mB, cB, sB]) rfl fun w0 M E hro => ?_
      repeat' (first | with_reducible (first | apply J1 | apply J3 | apply J4 | apply J5 | apply J6 | apply J7 | apply J8 | apply J9 | apply J10 | apply J11 | apply J12 | apply J13 | apply J14 | apply J15 | apply J16 | apply J17 | apply J18 | apply J19 | apply J20 | refine J2 ?_) | ((with_reducible apply J21); (· rfl)) | ((with_reducible intro hif); first | (focus (cases hif; done)) | (simp only [JH] at hif; try (exfalso; omega)) | (try (exfalso; omega))) | ((first | ((with_reducible apply J22 cM0_ok tab_ok); (· rfl)) | ((with_reducible apply J23 fol cM0_ok tab_ok); (· rfl)) | with_reducible apply J24); (· exact Vm.b22); (try kernel_rfl); (try exact Vm.b21)) | fail)
      apply At.endsRet tab_ok (fn := Try.f138) (rs := [.tmp 4]) Anc.refl hro (Nat.le_of_ble_eq_true rfl) rfl
      · exact Vm.b12
      · exact Vm.b6
      · exact Vm.b7
      · rfl
      · exact Vm.b13
      · exact Vm.b9
      · exact fun β => rfl
      · exact Vm.b13
    · refine litOkM (fn := Try.f138) 4 24 0 rfl rfl rfl rfl rfl (by simp only [StableL, Stable, hp, i64S, prS, insS, sndsS, sndS, stS, evS, macS]; simp [HB.born, mB, cB, sB]) rfl fun w0 M E hro => ?_
      repeat' (first | with_reducible (first | apply J1 | apply J3 | apply J4 | apply J5 | apply J6 | apply J7 | apply J8 | apply J9 | apply J10 | apply J11 | apply J12 | apply J13 | apply J14 | apply J15 | apply J16 | apply J17 | apply J18 | apply J19 | apply J20 | refine J2 ?_) | ((with_reducible apply J21); (· rfl)) | ((with_reducible intro hif); first | (focus (cases hif; done)) | (simp only [JH] at hif; try (exfalso; omega)) | (try (exfalso; omega))) | ((first | ((with_reducible apply J22 cM0_ok tab_ok); (· rfl)) | ((with_reducible apply J23 fol cM0_ok tab_ok); (· rfl)) | with_reducible apply J24); (· exact Vm.b22); (try kernel_rfl); (try exact Vm.b21)) | fail)
      apply At.endsRet tab_ok (fn := Try.f138) (rs := [.tmp 4]) Anc.refl hro (Nat.le_of_ble_eq_true rfl) rfl
      · exact Vm.b12
      · exact Vm.b6
      · exact Vm.b7
      · rfl
      · exact Vm.b13
      · exact Vm.b9
      · exact fun β => rfl
      · exact Vm.b13
  · cases hF
end Go.Proofs.Ytjliakjbdcplcaa.Vm
end

section
namespace Go.Proofs.Ytjliakjbdcplcaa.Vm
open Go.RowKit
attribute [local push_cast] runR opG gtmp gval gus opX tmpsOf tm tmO tmP restr look look2 tab tys zs ets eqB eqBL allB numOf ieq Int.cast_ofNat_Int Int.ofNat_zero beq_true beq_false frameOf ev evL ofV opV loadV noW pushF wrsL setH allBorn allGone HB.born HB.isGone HB.val SV.plain dstOk hp nav fitsT SV.size sizeL SV.isAgg TK.size TK.agg bin binE binN binI arN arI cmpN cmpI keq kn narrow callV storeV setp fillV buildV buildSliceV makeV sliceV appendV copyV List.isEmpty_nil srcV evO asN ite_t ite_f ite_bool ite_int ite_nat maxV v_beq v_ble v_blt cond_true cond_false List.getElem?_cons_zero List.getElem?_cons_succ List.getD_cons_zero List.getD_cons_succ List.getD_nil List.length_cons List.length_nil List.take_succ_cons List.take_zero List.set_cons_zero List.set_cons_succ List.cons_append List.nil_append List.append_assoc List.replicate_succ List.replicate_zero Nat.zero_add Nat.add_zero decide_true decide_false Bool.true_and Bool.and_true Bool.false_and Bool.and_false Bool.true_or Bool.or_true Bool.false_or Bool.or_false beq_self_eq_true Bool.or_self Nat.lt_irrefl Nat.not_lt_zero Nat.le_refl Option.getD_some Option.getD_none BEq.rfl Bool.not_true Bool.not_false Bool.cond_true_left Bool.cond_false_right prS sndsS i64S nav_ins nav_ins0 nav_ins1 nav_ins2 nav_ins3 nav_ins4 nav_snd nav_snd0 nav_snd1 nav_snd2 isIns_insS insOf_insS isSnd_sndS sndOf_sndS isI_int isI_nat iOf
set_option linter.unusedVariables false
set_option linter.unusedSimpArgs false
set_option maxRecDepth 100000
set_option maxHeartbeats 4000000
def sApply : Spec := fun args h m => match args with
  | [v1, v2, v3] => bif isI .u8 v1 && isI .i64 v2 && isI .i64 v3 then some (True, .tup [.int .i64 (applyV (iOf v1) (iOf v2) (iOf v3)), .int .i64 (wrongE (iOf v1) (iOf v3))], [], []) else none
  | _ => none
theorem sApply_ok : CallOk Try.prog 117 sApply := by
  refine ⟨named_spec (by kernel_rfl), fun args h m c v rd wr hs hm hc w0 M β h' w R hrd hwr hst => ?_⟩
  unfold sApply at hs
  split at hs
  · rename_i v1 v2 v3
    obtain ⟨hb, hs⟩ := bif_some hs
    simp only [Option.some.injEq, Prod.mk.injEq] at hs
    obtain ⟨rfl, rfl, rfl, rfl⟩ := hs
    simp only [Bool.and_eq_true] at hb
    obtain ⟨⟨b1, b2⟩, b3⟩ := hb
    simp only [denL, aggDen, intDen, natDen, boolDen, isI_den b1, isI_den b2, isI_den b3]
    exact (apply_c (iOf v1) (iOf v2) (iOf v3) w).mono fun e w' he => post_read R (by (repeat' (first | exact trivial | exact rfl | assumption | apply Stable.ite | apply And.intro | intro _ | (simp only [Stable, StableL, i64S, prS, insS, sndsS, sndS, stS, evS, macS]; done)))) rfl he.1 he.2
  · cases hs
def sDraw : Spec := fun args h m => match args with
  | [v1, v2, v3, v4] => bif isI .u64 v1 && isI .i64 v2 && isI .i64 v3 && isI .i64 v4 then some ((0 ≤ (iOf v2)) ∧ ((iOf v2) ≤ 65536) ∧ (0 ≤ (iOf v3)) ∧ ((iOf v3) ≤ 281474976710656) ∧ (1 ≤ (iOf v4)), .tup [.int .i64 (drawI (iOf v1) (iOf v2) (iOf v3) (iOf v4)), .int .i64 0], [], []) else none
  | _ => none
theorem sDraw_ok : CallOk Try.prog 137 sDraw := by
  refine ⟨named_spec (by kernel_rfl), fun args h m c v rd wr hs hm hc w0 M β h' w R hrd hwr hst => ?_⟩
  unfold sDraw at hs
  split at hs
  · rename_i v1 v2 v3 v4
    obtain ⟨hb, hs⟩ := bif_some hs
    simp only [Option.some.injEq, Prod.mk.injEq] at hs
    obtain ⟨rfl, rfl, rfl, rfl⟩ := hs
    simp only [Bool.and_eq_true] at hb
    obtain ⟨⟨⟨b1, b2⟩, b3⟩, b4⟩ := hb
    obtain ⟨y1, y2, y3, y4, y5⟩ := hc
    simp only [denL, aggDen, intDen, natDen, boolDen, isI_den b1, isI_den b2, isI_den b3, isI_den b4]
    exact (draw_ok (iOf v1) (iOf v2) (iOf v3) (iOf v4) w y1 y2 y3 y4 y5).mono fun e w' he => post_read R (by (repeat' (first | exact trivial | exact rfl | assumption | apply Stable.ite | apply And.intro | intro _ | (simp only [Stable, StableL, i64S, prS, insS, sndsS, sndS, stS, evS, macS]; done)))) rfl he.1 he.2
  · cases hs
theorem less_mac {σ : Nat → Nat} {c k c' k' : Nat} (s' : Sta) (v : Evi) (x : Ins) (hc : σ c = c') (hk : σ k = k') {a d : Int} {e : Bool} {n1 n2 : Nat} {rg : Nat → SV} (h1 : a = s'.at_) (h2 : e = s'.ended) (h3 : ∀ q, q < 8 → ∀ β, (rg q).cl β = [.int .i64 (s'.regs q)]) (h4 : n1 = s'.cells.length) (h5 : d = s'.draws) (h6 : n2 = s'.sends.length) :
    Less (.own 164 (.agg [.agg [.int .i64 a, .bool e, .arr 8 1 rg, .sl c' c' [] 1 0 n1 none, .int .i64 d, .sl k' k' [] 3 0 n2 none], .agg [.int .u64 v.seed, .int .i64 v.process, .int .i64 v.ports, .int .i64 v.look, .int .i64 v.now], insS x]) true) ((mB s' v x c k).ren σ) := by
  subst h1 h2 h4 h5 h6 hc hk
  rw [mB_ren]
  refine .val (fun β => ?_) (fun n k f e => by cases e) (fun n k f e => by cases e)
  have h8 : (SV.arr 8 1 rg).cl β = (SV.arr 8 1 fun q => .int .i64 (s'.regs q)).cl β := arrCl fun q hq => by rw [h3 q hq β]; rfl
  simp only [macS, stS, evS, cl_agg, clL_cons, clL_nil, h8]
theorem less_set {t : Nat} {σ : Nat → Nat} (l : List Int) (r : Nat) (a : Int) {n : Nat} (hn : n = l.length) {g : Nat → SV} (hg : ∀ q, q < l.length → ∀ β, (g q).cl β = [.int .i64 (if q = r then a else l.getD q 0)]) : Less (.own t (.arr n 1 g) false) ((HB.own t (.arr (l.set r a).length 1 (i64S (l.set r a))) false).ren σ) := by
  subst hn
  have e : (l.set r a).length = l.length := by simp
  rw [e]
  refine .val (fun β => arrCl fun q hq => ?_) (fun n1 k1 f1 e => by injection e with e1 e2 e3; subst e1 e2; exact ⟨_, rfl⟩) (fun n1 k1 f1 e => by injection e with e1 e2 e3; subst e1 e2; exact ⟨_, rfl⟩)
  rw [hg q hq β]
  show _ = [Value.int .i64 ((l.set r a).getD q 0)]
  congr 2
  rw [List.getD_eq_getElem?_getD, List.getD_eq_getElem?_getD, List.getElem?_set]
  by_cases h : q = r
  · subst h; simp [hq]
  · rw [if_neg h, if_neg (fun e => h e.symm)]
theorem less_snd {t : Nat} {σ : Nat → Nat} (l : List Snd) (y : Snd) {n : Nat} (hn : n = l.length + 1) {g : Nat → SV} (hg : ∀ q, q < l.length + 1 → ∀ β, (g q).cl β = ((l ++ [y]).getD q ⟨0, 0, 0⟩).cells) : Less (.own t (.arr n 3 g) false) ((HB.own t (.arr (l ++ [y]).length 3 (sndsS (l ++ [y]))) false).ren σ) := by
  subst hn
  have e : (l ++ [y]).length = l.length + 1 := by simp
  have e2 : (fun q => (sndsS (l ++ [y]) q).ren σ) = sndsS (l ++ [y]) := by
    funext q; unfold sndsS; simp only [sndS, SV.ren, renL]
  simp only [HB.ren, SV.ren, e2, e]
  refine .val (fun β => arrCl fun q hq => ?_) (fun n1 k1 f1 e => by injection e with e1 e2 e3; subst e1 e2; exact ⟨_, rfl⟩) (fun n1 k1 f1 e => by injection e with e1 e2 e3; subst e1 e2; exact ⟨_, rfl⟩)
  rw [hg q hq β]
  unfold sndsS
  rw [isSnd_cl (isSnd_sndS _), sndOf_sndS]
set_option linter.defProp false in
def JE := And.intro @sta_eta (And.intro @evi_eta (And.intro @ls_i64S (And.intro @ls_i64S' (And.intro @ls_i64S2 (And.intro @ls_sndsS (And.intro @ls_sndsS' (And.intro @ls_sndsS2 (And.intro @ls_prS (And.intro @ls_prS' @ls_prS2)))))))))
def kF (k : Int) (mv : Bool) : MF := fun ar s v x => match ar with
  | [] => some (x.op = k ∧ RI x ∧ VOk v ∧ SOk s, fun _ => .int .i64 (doE s v x), doS s v x, x, mv)
  | _ => none
def cM1 : FuncId → Option Spec := look2 [(136, rS aF), (134, rS bF), (139, rS cF), (133, mS putF), (138, mS jumpIfF), (117, sApply), (137, sDraw)]
theorem cM1_ok : ∀ f S, cM1 f = some S → CallOk Try.prog f S := allOk_spec ⟨a_ok, b_ok, c_ok, put_ok, jumpIf_ok, sApply_ok, sDraw_ok, trivial⟩
theorem m_fail : CallOk Try.prog 119 (mS (kF 2 false)) := mS_ok (by kernel_rfl) fun ar s v x cond val s' x' mv hF hc => by
  unfold kF at hF
  split at hF
  · cases hF
    obtain ⟨ho, R, V, S⟩ := hc
    obtain ⟨o0, o1, a0, a1, b0, b1, c0, c1, n0, n1⟩ := R.ok
    have ha := R.a
    have hb := R.b
    have hcc := R.c
    have s0 := S.a0
    have s1 := S.a1
    have d0 := S.d0
    have d1 := S.d1
    have sc := S.c1
    have sn := S.n1
    have v0 := V.p0
    have v1 := V.p1
    have v2 := V.t0
    have v3 := V.t1
    have v4 := V.o0
    have v5 := V.l0
    have hE : doE s v x = 184 := by simp [doE, ho]
    have hS : doS s v x = s := doS_bad (by rw [hE]; decide)
    rw [hE, hS]
    refine ⟨fun _ => rfl, fun _ => trivial, fun _ _ => rfl, fun _ _ _ => trivial, ?_⟩
    refine litOkM (fn := Try.f119) 4 3 0 rfl rfl rfl rfl rfl (by simp only [StableL, Stable, hp, i64S, prS, insS, sndsS, sndS, stS, evS, macS]; simp [HB.born, mB, cB, sB]) rfl fun w0 M E hro => ?_
    repeat' (first | with_reducible (first | apply J1 | apply J3 | apply J4 | apply J5 | apply J6 | apply J7 | apply J8 | apply J9 | apply J10 | apply J11 | apply J12 | apply J13 | apply J14 | apply J15 | apply J16 | apply J17 | apply J18 | apply J19 | apply J20 | refine J2 ?_) | ((with_reducible apply J21); (· rfl)) | ((with_reducible intro hif); first | (focus (cases hif; done)) | (simp only [JH] at hif; try (exfalso; omega)) | (try (exfalso; omega))) | ((first | ((with_reducible apply J22 cM1_ok tab_ok); (· rfl)) | ((with_reducible apply J23 fol cM1_ok tab_ok); (· rfl)) | with_reducible apply J24); (· exact Vm.b23); (try kernel_rfl); (try exact Vm.b21)) | fail)
    apply At.endsPick [0, 1, 2, 3] tab_ok (fn := Try.f119) (rs := [.tmp 2]) Anc.refl hro (Nat.le_of_ble_eq_true rfl) rfl
    · exact Vm.b12
    · exact Vm.b14
    · rfl
    · rfl
    · rfl
    · exact Vm.b15
    · rfl
    · exact Vm.b13
    · exact Vm.b9
    · exact fun β => rfl
    · exact Vm.b13
  · cases hF
theorem m_halt : CallOk Try.prog 118 (mS (kF 1 false)) := mS_ok (by kernel_rfl) fun ar s v x cond val s' x' mv hF hc => by
  unfold kF at hF
  split at hF
  · cases hF
    obtain ⟨ho, R, V, S⟩ := hc
    obtain ⟨o0, o1, a0, a1, b0, b1, c0, c1, n0, n1⟩ := R.ok
    have ha := R.a
    have hb := R.b
    have hcc := R.c
    have s0 := S.a0
    have s1 := S.a1
    have d0 := S.d0
    have d1 := S.d1
    have sc := S.c1
    have sn := S.n1
    have v0 := V.p0
    have v1 := V.p1
    have v2 := V.t0
    have v3 := V.t1
    have v4 := V.o0
    have v5 := V.l0
    have hE : doE s v x = 0 := by simp [doE, ho]
    have hS : doS s v x = { s with ended := true } := by simp [doS, hE, ho]
    rw [hE, hS]
    refine ⟨fun _ => rfl, fun _ => trivial, fun _ _ => rfl, fun _ _ _ => trivial, ?_⟩
    refine litOkM (fn := Try.f118) 4 7 0 rfl rfl rfl rfl rfl (by simp only [StableL, Stable, hp, i64S, prS, insS, sndsS, sndS, stS, evS, macS]; simp [HB.born, mB, cB, sB]) rfl fun w0 M E hro => ?_
    repeat' (first | with_reducible (first | apply J1 | apply J3 | apply J4 | apply J5 | apply J6 | apply J7 | apply J8 | apply J9 | apply J10 | apply J11 | apply J12 | apply J13 | apply J14 | apply J15 | apply J16 | apply J17 | apply J18 | apply J19 | apply J20 | refine J2 ?_) | ((with_reducible apply J21); (· rfl)) | ((with_reducible intro hif); first | (focus (cases hif; done)) | (simp only [JH] at hif; try (exfalso; omega)) | (try (exfalso; omega))) | ((first | ((with_reducible apply J22 cM1_ok tab_ok); (· rfl)) | ((with_reducible apply J23 fol cM1_ok tab_ok); (· rfl)) | with_reducible apply J24); (· exact Vm.b23); (try kernel_rfl); (try exact Vm.b21)) | fail)
    apply At.endsPick [0, 1, 2, 3] tab_ok (fn := Try.f118) (rs := [.tmp 2]) Anc.refl hro (Nat.le_of_ble_eq_true rfl) rfl
    · exact Vm.b12
    · exact Vm.b14
    · rfl
    · rfl
    · rfl
    · exact Vm.b15
    · rfl
    · exact Vm.b13
    · exact Vm.b9
    · exact fun β => rfl
    · exact Vm.b13
  · cases hF
theorem m_set : CallOk Try.prog 120 (mS (kF 3 false)) := mS_ok (by kernel_rfl) fun ar s v x cond val s' x' mv hF hc => by
  unfold kF at hF
  split at hF
  · cases hF
    obtain ⟨ho, R, V, S⟩ := hc
    obtain ⟨o0, o1, a0, a1, b0, b1, c0, c1, n0, n1⟩ := R.ok
    have ha := R.a
    have hb := R.b
    have hcc := R.c
    have s0 := S.a0
    have s1 := S.a1
    have d0 := S.d0
    have d1 := S.d1
    have sc := S.c1
    have sn := S.n1
    have v0 := V.p0
    have v1 := V.p1
    have v2 := V.t0
    have v3 := V.t1
    have v4 := V.o0
    have v5 := V.l0
    have hE : doE s v x = 0 := by simp [doE, ho]
    have hS : doS s v x = s.put x.a.toNat x.n := by simp [doS, hE, ho]
    rw [hE, hS]
    refine ⟨fun _ => rfl, fun _ => trivial, fun _ _ => rfl, fun _ _ _ => trivial, ?_⟩
    refine litOkM (fn := Try.f120) 4 10 0 rfl rfl rfl rfl rfl (by simp only [StableL, Stable, hp, i64S, prS, insS, sndsS, sndS, stS, evS, macS]; simp [HB.born, mB, cB, sB]) rfl fun w0 M E hro => ?_
    repeat' (first | with_reducible (first | apply J1 | apply J3 | apply J4 | apply J5 | apply J6 | apply J7 | apply J8 | apply J9 | apply J10 | apply J11 | apply J12 | apply J13 | apply J14 | apply J15 | apply J16 | apply J17 | apply J18 | apply J19 | apply J20 | refine J2 ?_) | ((with_reducible apply J21); (· rfl)) | ((with_reducible intro hif); first | (focus (cases hif; done)) | (simp only [JH] at hif; try (exfalso; omega)) | (try (exfalso; omega))) | ((first | ((with_reducible apply J22 cM1_ok tab_ok); (· rfl)) | ((with_reducible apply J23 fol cM1_ok tab_ok); (· rfl)) | with_reducible apply J24); (· exact Vm.b23); (try kernel_rfl); (try exact Vm.b21)) | fail)
    apply At.endsPick [0, 1, 2, 3] tab_ok (fn := Try.f120) (rs := [.tmp 2]) Anc.refl hro (Nat.le_of_ble_eq_true rfl) rfl
    · exact Vm.b12
    · exact Vm.b14
    · rfl
    · rfl
    · rfl
    · exact Vm.b15
    · rfl
    · exact Vm.b13
    · exact Vm.b9
    · exact fun β => rfl
    · exact Vm.b13
  · cases hF
theorem m_move : CallOk Try.prog 121 (mS (kF 4 false)) := mS_ok (by kernel_rfl) fun ar s v x cond val s' x' mv hF hc => by
  unfold kF at hF
  split at hF
  · cases hF
    obtain ⟨ho, R, V, S⟩ := hc
    obtain ⟨o0, o1, a0, a1, b0, b1, c0, c1, n0, n1⟩ := R.ok
    have ha := R.a
    have hb := R.b
    have hcc := R.c
    have s0 := S.a0
    have s1 := S.a1
    have d0 := S.d0
    have d1 := S.d1
    have sc := S.c1
    have sn := S.n1
    have v0 := V.p0
    have v1 := V.p1
    have v2 := V.t0
    have v3 := V.t1
    have v4 := V.o0
    have v5 := V.l0
    have hE : doE s v x = 0 := by simp [doE, ho]
    have hS : doS s v x = s.put x.a.toNat (s.regs x.b.toNat) := by simp [doS, hE, ho]
    rw [hE, hS]
    refine ⟨fun _ => rfl, fun _ => trivial, fun _ _ => rfl, fun _ _ _ => trivial, ?_⟩
    refine litOkM (fn := Try.f121) 4 7 0 rfl rfl rfl rfl rfl (by simp only [StableL, Stable, hp, i64S, prS, insS, sndsS, sndS, stS, evS, macS]; simp [HB.born, mB, cB, sB]) rfl fun w0 M E hro => ?_
    repeat' (first | with_reducible (first | apply J1 | apply J3 | apply J4 | apply J5 | apply J6 | apply J7 | apply J8 | apply J9 | apply J10 | apply J11 | apply J12 | apply J13 | apply J14 | apply J15 | apply J16 | apply J17 | apply J18 | apply J19 | apply J20 | refine J2 ?_) | ((with_reducible apply J21); (· rfl)) | ((with_reducible intro hif); first | (focus (cases hif; done)) | (simp only [JH] at hif; try (exfalso; omega)) | (try (exfalso; omega))) | ((first | ((with_reducible apply J22 cM1_ok tab_ok); (· rfl)) | ((with_reducible apply J23 fol cM1_ok tab_ok); (· rfl)) | with_reducible apply J24); (· exact Vm.b23); (try kernel_rfl); (try exact Vm.b21)) | fail)
    apply At.endsPick [0, 1, 2, 3] tab_ok (fn := Try.f121) (rs := [.tmp 2]) Anc.refl hro (Nat.le_of_ble_eq_true rfl) rfl
    · exact Vm.b12
    · exact Vm.b14
    · rfl
    · rfl
    · rfl
    · exact Vm.b15
    · rfl
    · exact Vm.b13
    · exact Vm.b9
    · exact fun β => rfl
    · exact Vm.b13
  · cases hF
theorem m_jump : CallOk Try.prog 126 (mS (kF 9 false)) := mS_ok (by kernel_rfl) fun ar s v x cond val s' x' mv hF hc => by
  unfold kF at hF
  split at hF
  · cases hF
    obtain ⟨ho, R, V, S⟩ := hc
    obtain ⟨o0, o1, a0, a1, b0, b1, c0, c1, n0, n1⟩ := R.ok
    have ha := R.a
    have hb := R.b
    have hcc := R.c
    have s0 := S.a0
    have s1 := S.a1
    have d0 := S.d0
    have d1 := S.d1
    have sc := S.c1
    have sn := S.n1
    have v0 := V.p0
    have v1 := V.p1
    have v2 := V.t0
    have v3 := V.t1
    have v4 := V.o0
    have v5 := V.l0
    have hj := R.jmp (.inl ho)
    have hE : doE s v x = 0 := by simp [doE, ho]
    have hS : doS s v x = { s with at_ := x.n } := by simp [doS, hE, ho]
    rw [hE, hS]
    refine ⟨fun _ => rfl, fun _ => trivial, fun _ _ => rfl, fun _ _ _ => trivial, ?_⟩
    refine litOkM (fn := Try.f126) 4 5 0 rfl rfl rfl rfl rfl (by simp only [StableL, Stable, hp, i64S, prS, insS, sndsS, sndS, stS, evS, macS]; simp [HB.born, mB, cB, sB]) rfl fun w0 M E hro => ?_
    repeat' (first | with_reducible (first | apply J1 | apply J3 | apply J4 | apply J5 | apply J6 | apply J7 | apply J8 | apply J9 | apply J10 | apply J11 | apply J12 | apply J13 | apply J14 | apply J15 | apply J16 | apply J17 | apply J18 | apply J19 | apply J20 | refine J2 ?_) | ((with_reducible apply J21); (· rfl)) | ((with_reducible intro hif); first | (focus (cases hif; done)) | (simp only [JH] at hif; try (exfalso; omega)) | (try (exfalso; omega))) | ((first | ((with_reducible apply J22 cM1_ok tab_ok); (· rfl)) | ((with_reducible apply J23 fol cM1_ok tab_ok); (· rfl)) | with_reducible apply J24); (· exact Vm.b23); (try kernel_rfl); (try exact Vm.b21)) | fail)
    apply At.endsPick [0, 1, 2, 3] tab_ok (fn := Try.f126) (rs := [.tmp 2]) Anc.refl hro (Nat.le_of_ble_eq_true rfl) rfl
    · exact Vm.b12
    · exact Vm.b14
    · rfl
    · rfl
    · rfl
    · exact Vm.b15
    · rfl
    · exact Vm.b13
    · exact Vm.b9
    · exact fun β => rfl
    · exact Vm.b13
  · cases hF
theorem m_jumpZero : CallOk Try.prog 127 (mS (kF 10 false)) := mS_ok (by kernel_rfl) fun ar s v x cond val s' x' mv hF hc => by
  unfold kF at hF
  split at hF
  · cases hF
    obtain ⟨ho, R, V, S⟩ := hc
    obtain ⟨o0, o1, a0, a1, b0, b1, c0, c1, n0, n1⟩ := R.ok
    have ha := R.a
    have hb := R.b
    have hcc := R.c
    have s0 := S.a0
    have s1 := S.a1
    have d0 := S.d0
    have d1 := S.d1
    have sc := S.c1
    have sn := S.n1
    have v0 := V.p0
    have v1 := V.p1
    have v2 := V.t0
    have v3 := V.t1
    have v4 := V.o0
    have v5 := V.l0
    have hj := R.jmp (.inr (.inl ho))
    have hE : doE s v x = 0 := by simp [doE, ho]
    have hS : doS s v x = { s with at_ := if s.regs x.a.toNat = 0 then x.n else s.at_ + 1 } := by simp [doS, hE, ho]
    rw [hE, hS]
    refine ⟨fun _ => rfl, fun _ => trivial, fun _ _ => rfl, fun _ _ _ => trivial, ?_⟩
    refine litOkM (fn := Try.f127) 4 8 0 rfl rfl rfl rfl rfl (by simp only [StableL, Stable, hp, i64S, prS, insS, sndsS, sndS, stS, evS, macS]; simp [HB.born, mB, cB, sB]) rfl fun w0 M E hro => ?_
    repeat' (first | with_reducible (first | apply J1 | apply J3 | apply J4 | apply J5 | apply J6 | apply J7 | apply J8 | apply J9 | apply J10 | apply J11 | apply J12 | apply J13 | apply J14 | apply J15 | apply J16 | apply J17 | apply J18 | apply J19 | apply J20 | refine J2 ?_) | ((with_reducible apply J21); (· rfl)) | ((with_reducible intro hif); first | (focus (cases hif; done)) | (simp only [JH] at hif; try (exfalso; omega)) | (try (exfalso; omega))) | ((first | ((with_reducible apply J22 cM1_ok tab_ok); (· rfl)) | ((with_reducible apply J23 fol cM1_ok tab_ok); (· rfl)) | with_reducible apply J24); (· exact Vm.b24); (try kernel_rfl); (try exact Vm.b21)) | fail)
    apply At.endsPick [0, 1, 2, 3] tab_ok (fn := Try.f127) (rs := [.tmp 2]) Anc.refl hro (Nat.le_of_ble_eq_true rfl) rfl
    · exact Vm.b12
    · exact Vm.b14
    · rfl
    · rfl
    · rfl
    · exact Vm.b15
    · rfl
    · exact Vm.b13
    · exact Vm.b9
    · exact fun β => rfl
    · exact Vm.b13
  · cases hF
theorem m_jumpNeg : CallOk Try.prog 128 (mS (kF 11 false)) := mS_ok (by kernel_rfl) fun ar s v x cond val s' x' mv hF hc => by
  unfold kF at hF
  split at hF
  · cases hF
    obtain ⟨ho, R, V, S⟩ := hc
    obtain ⟨o0, o1, a0, a1, b0, b1, c0, c1, n0, n1⟩ := R.ok
    have ha := R.a
    have hb := R.b
    have hcc := R.c
    have s0 := S.a0
    have s1 := S.a1
    have d0 := S.d0
    have d1 := S.d1
    have sc := S.c1
    have sn := S.n1
    have v0 := V.p0
    have v1 := V.p1
    have v2 := V.t0
    have v3 := V.t1
    have v4 := V.o0
    have v5 := V.l0
    have hj := R.jmp (.inr (.inr ho))
    have hE : doE s v x = 0 := by simp [doE, ho]
    have hS : doS s v x = { s with at_ := if s.regs x.a.toNat < 0 then x.n else s.at_ + 1 } := by simp [doS, hE, ho]
    rw [hE, hS]
    refine ⟨fun _ => rfl, fun _ => trivial, fun _ _ => rfl, fun _ _ _ => trivial, ?_⟩
    refine litOkM (fn := Try.f128) 4 8 0 rfl rfl rfl rfl rfl (by simp only [StableL, Stable, hp, i64S, prS, insS, sndsS, sndS, stS, evS, macS]; simp [HB.born, mB, cB, sB]) rfl fun w0 M E hro => ?_
    repeat' (first | with_reducible (first | apply J1 | apply J3 | apply J4 | apply J5 | apply J6 | apply J7 | apply J8 | apply J9 | apply J10 | apply J11 | apply J12 | apply J13 | apply J14 | apply J15 | apply J16 | apply J17 | apply J18 | apply J19 | apply J20 | refine J2 ?_) | ((with_reducible apply J21); (· rfl)) | ((with_reducible intro hif); first | (focus (cases hif; done)) | (simp only [JH] at hif; try (exfalso; omega)) | (try (exfalso; omega))) | ((first | ((with_reducible apply J22 cM1_ok tab_ok); (· rfl)) | ((with_reducible apply J23 fol cM1_ok tab_ok); (· rfl)) | with_reducible apply J24); (· exact Vm.b24); (try kernel_rfl); (try exact Vm.b21)) | fail)
    apply At.endsPick [0, 1, 2, 3] tab_ok (fn := Try.f128) (rs := [.tmp 2]) Anc.refl hro (Nat.le_of_ble_eq_true rfl) rfl
    · exact Vm.b12
    · exact Vm.b14
    · rfl
    · rfl
    · rfl
    · exact Vm.b15
    · rfl
    · exact Vm.b13
    · exact Vm.b9
    · exact fun β => rfl
    · exact Vm.b13
  · cases hF
def cellB (s : Sta) (x : Ins) : Bool := decide (0 ≤ s.regs x.b.toNat ∧ s.regs x.b.toNat < s.cells.length)
def cellF : MF := fun ar s v x => match ar with
  | [] => some (RI x ∧ SOk s, fun c => bif cellB s x then .tup [.ptr c [.i (s.regs x.b.toNat).toNat 1], .int .i64 0] else .tup [.nilp, .int .i64 185], s, x, false)
  | _ => none
theorem cell_ok : CallOk Try.prog 135 (mS cellF) := mS_ok (by kernel_rfl) fun ar s v x cond val s' x' mv hF hc => by
  unfold cellF at hF
  split at hF
  · cases hF
    obtain ⟨R, S⟩ := hc
    obtain ⟨o0, o1, a0, a1, b0, b1, c0, c1, n0, n1⟩ := R.ok
    have hb := R.b
    have sc := S.c1
    have hsl : (s.cells.length : Int) ≤ 1024 := by omega
    refine ⟨fun _ => rfl, fun _ => trivial, fun ρ h0 => ?_, fun h z1 z2 => ?_, ?_⟩
    · cases cellB s x <;> simp [SV.ren, renL]
    · cases cellB s x <;> simp [Stable, StableL, z1, z2]
    by_cases h1 : s.regs x.b.toNat < 0
    · have hcb : cellB s x = false := by unfold cellB; simp; omega
      rw [hcb]
      refine litOkM (fn := Try.f135) 4 26 0 rfl rfl rfl rfl rfl (by simp only [StableL, Stable, hp, i64S, prS, insS, sndsS, sndS, stS, evS, macS]; simp [HB.born, mB, cB, sB]) rfl fun w0 M E hro => ?_
      repeat' (first | with_reducible (first | apply J1 | apply J3 | apply J4 | apply J5 | apply J6 | apply J7 | apply J8 | apply J9 | apply J10 | apply J11 | apply J12 | apply J13 | apply J14 | apply J15 | apply J16 | apply J17 | apply J18 | apply J19 | apply J20 | refine J2 ?_) | ((with_reducible apply J21); (· rfl)) | ((with_reducible intro hif); first | (focus (cases hif; done)) | (simp only [JH] at hif; try (exfalso; omega)) | (try (exfalso; omega))) | ((first | ((with_reducible apply J22 cM1_ok tab_ok); (· rfl)) | ((with_reducible apply J23 fol cM1_ok tab_ok); (· rfl)) | with_reducible apply J24); (· (simp only [push_cast, ↓JP, Nat.reduceAdd, Nat.reduceEqDiff, Nat.reduceLT, Nat.reduceMul, Nat.reduceLeDiff, reduceCtorEq, reduceIte, ↓JK, JM, cM1, rS, mS, macP, aF, bF, cF, putF, jumpIfF, sApply, sDraw, JE, inR, inN, Bool.cond_decide, h1]; rfl)); (try kernel_rfl); (try exact Vm.b21)) | fail)
      apply At.endsPick [0, 1, 2, 3] tab_ok (fn := Try.f135) (rs := [.tmp 2, .tmp 3]) Anc.refl hro (Nat.le_of_ble_eq_true rfl) rfl
      · exact Vm.b12
      · exact Vm.b14
      · rfl
      · rfl
      · rfl
      · exact Vm.b15
      · rfl
      · exact Vm.b13
      · exact Vm.b9
      · exact fun β => rfl
      · exact Vm.b13
    by_cases h2 : (s.cells.length : Int) ≤ s.regs x.b.toNat
    · have hcb : cellB s x = false := by unfold cellB; simp; omega
      rw [hcb]
      refine litOkM (fn := Try.f135) 4 26 0 rfl rfl rfl rfl rfl (by simp only [StableL, Stable, hp, i64S, prS, insS, sndsS, sndS, stS, evS, macS]; simp [HB.born, mB, cB, sB]) rfl fun w0 M E hro => ?_
      repeat' (first | with_reducible (first | apply J1 | apply J3 | apply J4 | apply J5 | apply J6 | apply J7 | apply J8 | apply J9 | apply J10 | apply J11 | apply J12 | apply J13 | apply J14 | apply J15 | apply J16 | apply J17 | apply J18 | apply J19 | apply J20 | refine J2 ?_) | ((with_reducible apply J21); (· rfl)) | ((with_reducible intro hif); first | (focus (cases hif; done)) | (simp only [JH] at hif; try (exfalso; omega)) | (try (exfalso; omega))) | ((first | ((with_reducible apply J22 cM1_ok tab_ok); (· rfl)) | ((with_reducible apply J23 fol cM1_ok tab_ok); (· rfl)) | with_reducible apply J24); (· exact Vm.b25); (try kernel_rfl); (try exact Vm.b21)) | fail)
      apply At.endsPick [0, 1, 2, 3] tab_ok (fn := Try.f135) (rs := [.tmp 2, .tmp 3]) Anc.refl hro (Nat.le_of_ble_eq_true rfl) rfl
      · exact Vm.b12
      · exact Vm.b14
      · rfl
      · rfl
      · rfl
      · exact Vm.b15
      · rfl
      · exact Vm.b13
      · exact Vm.b9
      · exact fun β => rfl
      · exact Vm.b13
    · have hcb : cellB s x = true := by unfold cellB; simp; omega
      rw [hcb]
      have hr : (s.regs x.b.toNat).toNat < s.cells.length := by omega
      refine litOkM (fn := Try.f135) 4 26 0 rfl rfl rfl rfl rfl (by simp only [StableL, Stable, hp, i64S, prS, insS, sndsS, sndS, stS, evS, macS]; simp [HB.born, mB, cB, sB]) rfl fun w0 M E hro => ?_
      repeat' (first | with_reducible (first | apply J1 | apply J3 | apply J4 | apply J5 | apply J6 | apply J7 | apply J8 | apply J9 | apply J10 | apply J11 | apply J12 | apply J13 | apply J14 | apply J15 | apply J16 | apply J17 | apply J18 | apply J19 | apply J20 | refine J2 ?_) | ((with_reducible apply J21); (· rfl)) | ((with_reducible intro hif); first | (focus (cases hif; done)) | (simp only [JH] at hif; try (exfalso; omega)) | (try (exfalso; omega))) | ((first | ((with_reducible apply J22 cM1_ok tab_ok); (· rfl)) | ((with_reducible apply J23 fol cM1_ok tab_ok); (· rfl)) | with_reducible apply J24); (· exact Vm.b25); (try kernel_rfl); (try exact Vm.b21)) | fail)
      apply At.endsPick [0, 1, 2, 3] tab_ok (fn := Try.f135) (rs := [.tmp 2, .tmp 3]) Anc.refl hro (Nat.le_of_ble_eq_true rfl) rfl
      · exact Vm.b12
      · exact Vm.b14
      · rfl
      · rfl
      · rfl
      · exact Vm.b15
      · rfl
      · exact Vm.b13
      · exact Vm.b9
      · exact fun β => rfl
      · exact Vm.b13
  · cases hF
def wF : MF := fun ar s v x => match ar with
  | [] => some (32 < x.op ∧ RI x ∧ VOk v ∧ SOk s, fun _ => .int .i64 (doE s v x), doS s v x, x, false)
  | _ => none
theorem m_word : CallOk Try.prog 129 (mS wF) := mS_ok (by kernel_rfl) fun ar s v x cond val s' x' mv hF hc => by
  unfold wF at hF
  split at hF
  · cases hF
    obtain ⟨ho, R, V, S⟩ := hc
    obtain ⟨o0, o1, a0, a1, b0, b1, c0, c1, n0, n1⟩ := R.ok
    have ha := R.a
    have hb := R.b
    have hcc := R.c
    have s0 := S.a0
    have s1 := S.a1
    have d0 := S.d0
    have d1 := S.d1
    have sc := S.c1
    have sn := S.n1
    have v0 := V.p0
    have v1 := V.p1
    have v2 := V.t0
    have v3 := V.t1
    have v4 := V.o0
    have v5 := V.l0
    have hop : x.op - 32 ≤ 255 := by omega
    have hE : doE s v x = wrongE (x.op - 32) (s.regs x.c.toNat) := by
      have h32 : ¬ x.op < 32 := by omega
      simp [doE, show ¬ x.op = 2 by omega, show ¬ x.op = 5 by omega, show ¬ x.op = 6 by omega, show ¬ x.op = 7 by omega, show ¬ x.op = 8 by omega, h32]
    by_cases hw : wrongE (x.op - 32) (s.regs x.c.toNat) = 0
    · have hS : doS s v x = s.put x.a.toNat (applyV (x.op - 32) (s.regs x.b.toNat) (s.regs x.c.toNat)) := by
        unfold doS
        rw [hE, hw]
        simp [show ¬ x.op = 1 by omega, show ¬ x.op = 3 by omega, show ¬ x.op = 4 by omega, show ¬ x.op = 5 by omega, show ¬ x.op = 6 by omega, show ¬ x.op = 7 by omega, show ¬ x.op = 8 by omega, show ¬ x.op = 9 by omega, show ¬ x.op = 10 by omega, show ¬ x.op = 11 by omega]
      rw [hE, hw, hS]
      refine ⟨fun _ => rfl, fun _ => trivial, fun _ _ => rfl, fun _ _ _ => trivial, ?_⟩
      refine litOkM (fn := Try.f129) 4 25 0 rfl rfl rfl rfl rfl (by simp only [StableL, Stable, hp, i64S, prS, insS, sndsS, sndS, stS, evS, macS]; simp [HB.born, mB, cB, sB]) rfl fun w0 M E hro => ?_
      repeat' (first | with_reducible (first | apply J1 | apply J3 | apply J4 | apply J5 | apply J6 | apply J7 | apply J8 | apply J9 | apply J10 | apply J11 | apply J12 | apply J13 | apply J14 | apply J15 | apply J16 | apply J17 | apply J18 | apply J19 | apply J20 | refine J2 ?_) | ((with_reducible apply J21); (· rfl)) | ((with_reducible intro hif); first | (focus (cases hif; done)) | (simp only [JH] at hif; try (exfalso; omega)) | (try (exfalso; omega))) | ((first | ((with_reducible apply J22 cM1_ok tab_ok); (· rfl)) | ((with_reducible apply J23 fol cM1_ok tab_ok); (· rfl)) | with_reducible apply J24); (· exact Vm.b26); (try kernel_rfl); (try exact Vm.b21)) | fail)
      apply At.endsPick [0, 1, 2, 3] tab_ok (fn := Try.f129) (rs := [.tmp 2]) Anc.refl hro (Nat.le_of_ble_eq_true rfl) rfl
      · exact Vm.b12
      · exact Vm.b14
      · rfl
      · rfl
      · rfl
      · exact Vm.b15
      · rfl
      · exact Vm.b13
      · exact Vm.b9
      · exact fun β => rfl
      · exact Vm.b13
    · have hS : doS s v x = s := doS_bad (by rw [hE]; exact hw)
      rw [hE, hS]
      refine ⟨fun _ => rfl, fun _ => trivial, fun _ _ => rfl, fun _ _ _ => trivial, ?_⟩
      refine litOkM (fn := Try.f129) 4 25 0 rfl rfl rfl rfl rfl (by simp only [StableL, Stable, hp, i64S, prS, insS, sndsS, sndS, stS, evS, macS]; simp [HB.born, mB, cB, sB]) rfl fun w0 M E hro => ?_
      repeat' (first | with_reducible (first | apply J1 | apply J3 | apply J4 | apply J5 | apply J6 | apply J7 | apply J8 | apply J9 | apply J10 | apply J11 | apply J12 | apply J13 | apply J14 | apply J15 | apply J16 | apply J17 | apply J18 | apply J19 | apply J20 | refine J2 ?_) | ((with_reducible apply J21); (· rfl)) | ((with_reducible intro hif); first | (focus (cases hif; done)) | (simp only [JH] at hif; try (exfalso; omega)) | (try (exfalso; omega))) | ((first | ((with_reducible apply J22 cM1_ok tab_ok); (· rfl)) | ((with_reducible apply J23 fol cM1_ok tab_ok); (· rfl)) | with_reducible apply J24); (· exact Vm.b26); (try kernel_rfl); (try exact Vm.b21)) | fail)
      apply At.endsPick [0, 1, 2, 3] tab_ok (fn := Try.f129) (rs := [.tmp 2]) Anc.refl hro (Nat.le_of_ble_eq_true rfl) rfl
      · exact Vm.b12
      · exact Vm.b14
      · rfl
      · rfl
      · rfl
      · exact Vm.b15
      · rfl
      · exact Vm.b13
      · exact Vm.b9
      · exact fun β => rfl
      · exact Vm.b13
  · cases hF
-- ----------------------------------------
theorem m_draw : CallOk Try.prog 124 (mS (kF 7 false)) := mS_ok (by kernel_rfl) fun ar s v x cond val s' x' mv hF hc => by
  unfold kF at hF
  split at hF
  · cases hF
    obtain ⟨ho, R, V, S⟩ := hc
    obtain ⟨o0, o1, a0, a1, b0, b1, c0, c1, n0, n1⟩ := R.ok
    have ha := R.a
    have hb := R.b
    have hcc := R.c
    have s0 := S.a0
    have s1 := S.a1
    have d0 := S.d0
    have d1 := S.d1
    have sc := S.c1
    have sn := S.n1
    have v0 := V.p0
    have v1 := V.p1
    have v2 := V.t0
    have v3 := V.t1
    have v4 := V.o0
    have v5 := V.l0
    by_cases q0 : s.regs x.b.toNat < 1
    · have hE : doE s v x = 186 := by simp [doE, sendE, ho, q0]
      have hS : doS s v x = s := doS_bad (by rw [hE]; decide)
      rw [hE, hS]
      refine ⟨fun _ => rfl, fun _ => trivial, fun _ _ => rfl, fun _ _ _ => trivial, ?_⟩
      refine litOkM (fn := Try.f124) 4 49 0 rfl rfl rfl rfl rfl (by simp only [StableL, Stable, hp, i64S, prS, insS, sndsS, sndS, stS, evS, macS]; simp [HB.born, mB, cB, sB]) rfl fun w0 M E hro => ?_
      repeat' (first | with_reducible (first | apply J1 | apply J3 | apply J4 | apply J5 | apply J6 | apply J7 | apply J8 | apply J9 | apply J10 | apply J11 | apply J12 | apply J13 | apply J14 | apply J15 | apply J16 | apply J17 | apply J18 | apply J19 | apply J20 | refine J2 ?_) | ((with_reducible apply J21); (· rfl)) | ((with_reducible intro hif); first | (focus (cases hif; done)) | (simp only [JH] at hif; try (exfalso; omega)) | (try (exfalso; omega))) | ((first | ((with_reducible apply J22 cM1_ok tab_ok); (· rfl)) | ((with_reducible apply J23 fol cM1_ok tab_ok); (· rfl)) | with_reducible apply J24); (· exact Vm.b27); (try kernel_rfl); (try exact Vm.b21)) | fail)
      apply At.endsPick [0, 1, 2, 3] tab_ok (fn := Try.f124) (rs := [.tmp 2]) Anc.refl hro (Nat.le_of_ble_eq_true rfl) rfl
      · exact Vm.b12
      · exact Vm.b14
      · rfl
      · rfl
      · rfl
      · exact Vm.b15
      · rfl
      · exact Vm.b13
      · exact Vm.b9
      · exact fun β => rfl
      · exact Vm.b13
    by_cases q1 : s.draws = 1099511627776
    · have hE : doE s v x = 187 := by simp [doE, sendE, ho, q0, q1]
      have hS : doS s v x = s := doS_bad (by rw [hE]; decide)
      rw [hE, hS]
      refine ⟨fun _ => rfl, fun _ => trivial, fun _ _ => rfl, fun _ _ _ => trivial, ?_⟩
      refine litOkM (fn := Try.f124) 4 49 0 rfl rfl rfl rfl rfl (by simp only [StableL, Stable, hp, i64S, prS, insS, sndsS, sndS, stS, evS, macS]; simp [HB.born, mB, cB, sB]) rfl fun w0 M E hro => ?_
      repeat' (first | with_reducible (first | apply J1 | apply J3 | apply J4 | apply J5 | apply J6 | apply J7 | apply J8 | apply J9 | apply J10 | apply J11 | apply J12 | apply J13 | apply J14 | apply J15 | apply J16 | apply J17 | apply J18 | apply J19 | apply J20 | refine J2 ?_) | ((with_reducible apply J21); (· rfl)) | ((with_reducible intro hif); first | (focus (cases hif; done)) | (simp only [JH] at hif; try (exfalso; omega)) | (try (exfalso; omega))) | ((first | ((with_reducible apply J22 cM1_ok tab_ok); (· rfl)) | ((with_reducible apply J23 fol cM1_ok tab_ok); (· rfl)) | with_reducible apply J24); (· exact Vm.b28); (try kernel_rfl); (try exact Vm.b21)) | fail)
      apply At.endsPick [0, 1, 2, 3] tab_ok (fn := Try.f124) (rs := [.tmp 2]) Anc.refl hro (Nat.le_of_ble_eq_true rfl) rfl
      · exact Vm.b12
      · exact Vm.b14
      · rfl
      · rfl
      · rfl
      · exact Vm.b15
      · rfl
      · exact Vm.b13
      · exact Vm.b9
      · exact fun β => rfl
      · exact Vm.b13
    have hE : doE s v x = 0 := by simp [doE, sendE, ho, q0, q1]
    have hS : doS s v x = { s.put x.a.toNat (drawI v.seed v.process s.draws (s.regs x.b.toNat)) with draws := s.draws + 1 } := by simp [doS, hE, ho]
    rw [hE, hS]
    refine ⟨fun _ => rfl, fun _ => trivial, fun _ _ => rfl, fun _ _ _ => trivial, ?_⟩
    refine litOkM (fn := Try.f124) 4 49 0 rfl rfl rfl rfl rfl (by simp only [StableL, Stable, hp, i64S, prS, insS, sndsS, sndS, stS, evS, macS]; simp [HB.born, mB, cB, sB]) rfl fun w0 M E hro => ?_
    repeat' (first | with_reducible (first | apply J1 | apply J3 | apply J4 | apply J5 | apply J6 | apply J7 | apply J8 | apply J9 | apply J10 | apply J11 | apply J12 | apply J13 | apply J14 | apply J15 | apply J16 | apply J17 | apply J18 | apply J19 | apply J20 | refine J2 ?_) | ((with_reducible apply J21); (· rfl)) | ((with_reducible intro hif); first | (focus (cases hif; done)) | (simp only [JH] at hif; try (exfalso; omega)) | (try (exfalso; omega))) | ((first | ((with_reducible apply J22 cM1_ok tab_ok); (· rfl)) | ((with_reducible apply J23 fol cM1_ok tab_ok); (· rfl)) | with_reducible apply J24); (· exact Vm.b28); (try kernel_rfl); (try exact Vm.b21)) | fail)
    apply At.endsPick [0, 1, 2, 3] tab_ok (fn := Try.f124) (rs := [.tmp 2]) Anc.refl hro (Nat.le_of_ble_eq_true rfl) rfl
    · exact Vm.b12
    · exact Vm.b14
    · rfl
    · rfl
    · rfl
    · exact Vm.b15
    · rfl
    · exact Vm.b13
    · exact Vm.b9
    · exact fun β => rfl
    · exact Vm.b13
  · cases hF
def cM2 : FuncId → Option Spec := look2 [(136, rS aF), (134, rS bF), (133, mS putF), (135, mS cellF)]
theorem cM2_ok : ∀ f S, cM2 f = some S → CallOk Try.prog f S := allOk_spec ⟨a_ok, b_ok, put_ok, cell_ok, trivial⟩
theorem m_load : CallOk Try.prog 122 (mS (kF 5 false)) := mS_ok (by kernel_rfl) fun ar s v x cond val s' x' mv hF hc => by
  unfold kF at hF
  split at hF
  · cases hF
    obtain ⟨ho, R, V, S⟩ := hc
    obtain ⟨o0, o1, a0, a1, b0, b1, c0, c1, n0, n1⟩ := R.ok
    have ha := R.a
    have hb := R.b
    have hcc := R.c
    have s0 := S.a0
    have s1 := S.a1
    have d0 := S.d0
    have d1 := S.d1
    have sc := S.c1
    have sn := S.n1
    have v0 := V.p0
    have v1 := V.p1
    have v2 := V.t0
    have v3 := V.t1
    have v4 := V.o0
    have v5 := V.l0
    by_cases h1 : s.regs x.b.toNat < 0 ∨ (s.cells.length : Int) ≤ s.regs x.b.toNat
    · have hcb : cellB s x = false := by unfold cellB; simp; omega
      have hE : doE s v x = 185 := by simp [doE, ho, h1]
      have hS : doS s v x = s := doS_bad (by rw [hE]; decide)
      rw [hE, hS]
      refine ⟨fun _ => rfl, fun _ => trivial, fun _ _ => rfl, fun _ _ _ => trivial, ?_⟩
      refine litOkM (fn := Try.f122) 4 18 0 rfl rfl rfl rfl rfl (by simp only [StableL, Stable, hp, i64S, prS, insS, sndsS, sndS, stS, evS, macS]; simp [HB.born, mB, cB, sB]) rfl fun w0 M E hro => ?_
      repeat' (first | with_reducible (first | apply J1 | apply J3 | apply J4 | apply J5 | apply J6 | apply J7 | apply J8 | apply J9 | apply J10 | apply J11 | apply J12 | apply J13 | apply J14 | apply J15 | apply J16 | apply J17 | apply J18 | apply J19 | apply J20 | refine J2 ?_) | ((with_reducible apply J21); (· rfl)) | ((with_reducible intro hif); first | (focus (cases hif; done)) | (simp only [JH] at hif; try (exfalso; omega)) | (try (exfalso; omega))) | ((first | ((with_reducible apply J22 cM2_ok tab_ok); (· rfl)) | ((with_reducible apply J23 fol cM2_ok tab_ok); (· rfl)) | with_reducible apply J24); (· exact Vm.b30); (try kernel_rfl); (try exact Vm.b29)) | fail)
      apply At.endsPick [0, 1, 2, 3] tab_ok (fn := Try.f122) (rs := [.tmp 2]) Anc.refl hro (Nat.le_of_ble_eq_true rfl) rfl
      · exact Vm.b12
      · exact Vm.b14
      · rfl
      · rfl
      · rfl
      · exact Vm.b15
      · rfl
      · exact Vm.b13
      · exact Vm.b9
      · exact fun β => rfl
      · exact Vm.b13
    · have hcb : cellB s x = true := by unfold cellB; simp; omega
      have hr : (s.regs x.b.toNat).toNat < s.cells.length := by omega
      have hE : doE s v x = 0 := by simp [doE, ho, h1]
      have hS : doS s v x = s.put x.a.toNat (s.cells.getD (s.regs x.b.toNat).toNat 0) := by simp [doS, hE, ho]
      rw [hE, hS]
      refine ⟨fun _ => rfl, fun _ => trivial, fun _ _ => rfl, fun _ _ _ => trivial, ?_⟩
      refine litOkM (fn := Try.f122) 4 18 0 rfl rfl rfl rfl rfl (by simp only [StableL, Stable, hp, i64S, prS, insS, sndsS, sndS, stS, evS, macS]; simp [HB.born, mB, cB, sB]) rfl fun w0 M E hro => ?_
      repeat' (first | with_reducible (first | apply J1 | apply J3 | apply J4 | apply J5 | apply J6 | apply J7 | apply J8 | apply J9 | apply J10 | apply J11 | apply J12 | apply J13 | apply J14 | apply J15 | apply J16 | apply J17 | apply J18 | apply J19 | apply J20 | refine J2 ?_) | ((with_reducible apply J21); (· rfl)) | ((with_reducible intro hif); first | (focus (cases hif; done)) | (simp only [JH] at hif; try (exfalso; omega)) | (try (exfalso; omega))) | ((first | ((with_reducible apply J22 cM2_ok tab_ok); (· rfl)) | ((with_reducible apply J23 fol cM2_ok tab_ok); (· rfl)) | with_reducible apply J24); (· exact Vm.b30); (try kernel_rfl); (try exact Vm.b29)) | fail)
      apply At.endsPick [0, 1, 2, 3] tab_ok (fn := Try.f122) (rs := [.tmp 2]) Anc.refl hro (Nat.le_of_ble_eq_true rfl) rfl
      · exact Vm.b12
      · exact Vm.b14
      · rfl
      · rfl
      · rfl
      · exact Vm.b15
      · rfl
      · exact Vm.b13
      · exact Vm.b9
      · exact fun β => rfl
      · exact Vm.b13
  · cases hF
theorem m_store : CallOk Try.prog 123 (mS (kF 6 false)) := mS_ok (by kernel_rfl) fun ar s v x cond val s' x' mv hF hc => by
  unfold kF at hF
  split at hF
  · cases hF
    obtain ⟨ho, R, V, S⟩ := hc
    obtain ⟨o0, o1, a0, a1, b0, b1, c0, c1, n0, n1⟩ := R.ok
    have ha := R.a
    have hb := R.b
    have hcc := R.c
    have s0 := S.a0
    have s1 := S.a1
    have d0 := S.d0
    have d1 := S.d1
    have sc := S.c1
    have sn := S.n1
    have v0 := V.p0
    have v1 := V.p1
    have v2 := V.t0
    have v3 := V.t1
    have v4 := V.o0
    have v5 := V.l0
    by_cases h1 : s.regs x.b.toNat < 0 ∨ (s.cells.length : Int) ≤ s.regs x.b.toNat
    · have hcb : cellB s x = false := by unfold cellB; simp; omega
      have hE : doE s v x = 185 := by simp [doE, ho, h1]
      have hS : doS s v x = s := doS_bad (by rw [hE]; decide)
      rw [hE, hS]
      refine ⟨fun _ => rfl, fun _ => trivial, fun _ _ => rfl, fun _ _ _ => trivial, ?_⟩
      refine litOkM (fn := Try.f123) 4 26 0 rfl rfl rfl rfl rfl (by simp only [StableL, Stable, hp, i64S, prS, insS, sndsS, sndS, stS, evS, macS]; simp [HB.born, mB, cB, sB]) rfl fun w0 M E hro => ?_
      repeat' (first | with_reducible (first | apply J1 | apply J3 | apply J4 | apply J5 | apply J6 | apply J7 | apply J8 | apply J9 | apply J10 | apply J11 | apply J12 | apply J13 | apply J14 | apply J15 | apply J16 | apply J17 | apply J18 | apply J19 | apply J20 | refine J2 ?_) | ((with_reducible apply J21); (· rfl)) | ((with_reducible intro hif); first | (focus (cases hif; done)) | (simp only [JH] at hif; try (exfalso; omega)) | (try (exfalso; omega))) | ((first | ((with_reducible apply J22 cM2_ok tab_ok); (· rfl)) | ((with_reducible apply J23 fol cM2_ok tab_ok); (· rfl)) | with_reducible apply J24); (· exact Vm.b30); (try kernel_rfl); (try exact Vm.b29)) | fail)
      apply At.endsPick [0, 1, 2, 3] tab_ok (fn := Try.f123) (rs := [.tmp 2]) Anc.refl hro (Nat.le_of_ble_eq_true rfl) rfl
      · exact Vm.b12
      · exact Vm.b14
      · rfl
      · rfl
      · rfl
      · exact Vm.b15
      · rfl
      · exact Vm.b13
      · exact Vm.b9
      · exact fun β => rfl
      · exact Vm.b13
    · have hcb : cellB s x = true := by unfold cellB; simp; omega
      have hr : (s.regs x.b.toNat).toNat < s.cells.length := by omega
      have hE : doE s v x = 0 := by simp [doE, ho, h1]
      have hS : doS s v x = { s with cells := s.cells.set (s.regs x.b.toNat).toNat (s.regs x.a.toNat), at_ := s.at_ + 1 } := by simp [doS, hE, ho]
      rw [hE, hS]
      refine ⟨fun _ => rfl, fun _ => trivial, fun _ _ => rfl, fun _ _ _ => trivial, ?_⟩
      refine litOkM (fn := Try.f123) 4 26 0 rfl rfl rfl rfl rfl (by simp only [StableL, Stable, hp, i64S, prS, insS, sndsS, sndS, stS, evS, macS]; simp [HB.born, mB, cB, sB]) rfl fun w0 M E hro => ?_
      repeat' (first | with_reducible (first | apply J1 | apply J3 | apply J4 | apply J5 | apply J6 | apply J7 | apply J8 | apply J9 | apply J10 | apply J11 | apply J12 | apply J13 | apply J14 | apply J15 | apply J16 | apply J17 | apply J18 | apply J19 | apply J20 | refine J2 ?_) | ((with_reducible apply J21); (· rfl)) | ((with_reducible intro hif); first | (focus (cases hif; done)) | (simp only [JH] at hif; try (exfalso; omega)) | (try (exfalso; omega))) | ((first | ((with_reducible apply J22 cM2_ok tab_ok); (· rfl)) | ((with_reducible apply J23 fol cM2_ok tab_ok); (· rfl)) | with_reducible apply J24); (· exact Vm.b30); (try kernel_rfl); (try exact Vm.b29)) | fail)
      apply At.endsPick [0, 1, 2, 3] tab_ok (fn := Try.f123) (rs := [.tmp 2]) Anc.refl hro (Nat.le_of_ble_eq_true rfl) rfl
      · exact Vm.b12
      · exact Vm.b14
      · rfl
      · rfl
      · rfl
      · exact Vm.b15
      · rfl
      · exact Vm.b13
      · exact Vm.b9
      · exact fun β => rfl
      · exact Vm.b13
  · cases hF
end Go.Proofs.Ytjliakjbdcplcaa.Vm
end

section
namespace Go.Proofs.Ytjliakjbdcplcaa
open Go.RowKit
set_option linter.unusedVariables false
set_option linter.unusedSimpArgs false

theorem reads_new (X : World) (t : TypeId) (cs : Array Value) (k n B gg : Nat) (h : gg = X.heap.size) (hB : gg < B) (hl : cs.size = n * k) : Reads (X.alloc (.cells cs t)) B k (some ⟨gg, 0, none⟩) n cs.toList := by
  subst h
  refine ⟨by simpa using hl, fun _ => ⟨_, rfl, hB, fun j u hu => ?_⟩⟩
  rw [Addr.add_lit, cell_of_row _ _ _ _ _ _ (heap_alloc_new X _), Nat.zero_add]
  simpa using hu
theorem blk5 {W : World} {g : Nat} {t : TypeId} {a0 a1 a2 a3 a4 : Value} (h : Blk W g t #[a0, a1, a2, a3, a4]) :
    (W.cell? ⟨g, 0, none⟩ = some a0 ∧ W.cell? ⟨g, 1, none⟩ = some a1 ∧ W.cell? ⟨g, 2, none⟩ = some a2 ∧ W.cell? ⟨g, 3, none⟩ = some a3 ∧ W.cell? ⟨g, 4, none⟩ = some a4) ∧ ∀ i, W.frozen? ⟨g, i, none⟩ = false :=
  ⟨⟨h.cell 0, h.cell 1, h.cell 2, h.cell 3, h.cell 4⟩, fun i => h.frozen i⟩
theorem max_i64 (a b M : Int) (t u : TypeId) (v : Array TypeId) (h : (if a < b then b else a) = M) (w : World) : (Builtin.max_ v t #[.int .i64 a, .int .i64 b]).run Try.prog w = .ok (.int .i64 M) w := by
  subst h
  unfold Builtin.max_
  simp [Builtin.max2]
theorem Blk.row {W : World} {g : Nat} {t : TypeId} {cs : Array Value} (h : Blk W g t cs) (cs' : Array Value) : Blk (W.setRow g cs') g t cs' := setRow_heap _ _ _ _ _ _ h
def haltI : Ins := ⟨1, 0, 0, 0, 0⟩
theorem haltI_ok : haltI.ok := ⟨by decide, by decide, by decide, by decide, by decide, by decide, by decide, by decide, by decide, by decide⟩
theorem min_i64 (a b M : Int) (t u : TypeId) (v : Array TypeId) (h : (if b < a then b else a) = M) (w : World) : (Builtin.min_ v t #[.int .i64 a, .int .i64 b]).run Try.prog w = .ok (.int .i64 M) w := by
  subst h
  unfold Builtin.min_
  simp [Builtin.min2]
theorem infoIns : (Try.prog.info? 73).map (fun i => (i.zero, i.size, i.bytes)) = some (some (.agg #[.int .u8 0, .int .u8 0, .int .u8 0, .int .u8 0, .int .i64 0]), 5, 16) := by kernel_rfl
theorem ownsRow_keep {w w' : World} {base : Nat} {e : TypeId} {size : Nat} {v : Value} {n : Nat} {xs : List Value} (h : w.ownsRow base e size v n xs) (hk : ∀ g, v.ownBlock = some g → g < w.heap.size → w'.heap[g]? = w.heap[g]?) : w'.ownsRow base e size v n xs := by
  refine ⟨h.1, ?_⟩
  rcases h.2 with h2 | ⟨g, cap, cur, rfl, hb, hh, r⟩
  · exact .inl h2
  · have hlt : g < w.heap.size := by
      rcases Nat.lt_or_ge g w.heap.size with hlt | hge
      · exact hlt
      · rw [Array.getElem?_eq_none hge] at hh; cases hh
    exact .inr ⟨g, cap, cur, rfl, hb, by rw [hk g rfl hlt]; exact hh, r⟩
theorem own_slice {w : World} {base : Nat} {e : TypeId} {size : Nat} {v : Value} {n : Nat} {xs : List Value} (h : w.ownsRow base e size v n xs) : ∃ A c, v = .slice A n c := by
  rcases h.2 with ⟨rfl, rfl⟩ | ⟨g, cap, cur, rfl, _⟩
  · exact ⟨_, _, rfl⟩
  · exact ⟨_, _, rfl⟩
theorem own_alloc {W : World} {base size n : Nat} {e : TypeId} {v : Value} {xs : List Value} (h : W.ownsRow base e size v n xs) (o : Obj) : (W.alloc o).ownsRow base e size v n xs := ownsRow_keep h fun j _ hj => Below.heap_alloc W o j hj
theorem own_base {w : World} {base : Nat} {e : TypeId} {size : Nat} {v : Value} {n : Nat} {xs : List Value} (h : w.ownsRow base e size v n xs) : ∀ k, v.ownBlock = some k → base ≤ k := by
  intro k hk
  rcases h.2 with ⟨rfl, _⟩ | ⟨g, cap, cur, rfl, hb, _⟩
  · simp [Value.ownBlock] at hk
  · simp [Value.ownBlock] at hk; omega
def IsRow (w : World) (g k : Nat) : Prop := ∃ t cs, Blk w g t cs ∧ cs.size = k
section
variable {d : Option Tmp} {x y : Operand} {ty : TypeId} {pos : String} {after : Array Edge} {guard : Option (Nat × Bool)} {a : Act} {w : World} {K : Act → World → Prop} {Q : Exit → Act → World → Prop}
end

structure Rd where
  size : Nat
  A : Option Addr
  n : Nat
  xs : List Value
structure Bk where
  g : Nat
  t : TypeId
  cs : Array Value
structure AW (w : World) (L : List Bk) (R : List Rd) (W : World) : Prop where
  b : Below w.heap.size w W
  l : ∀ e ∈ L, Blk W e.g e.t e.cs
  r : ∀ e ∈ R, Reads W W.heap.size e.size e.A e.n e.xs
section
variable {w W W' : World} {L : List Bk} {R : List Rd}
theorem AW.start (w : World) : AW w [] [⟨1, none, 0, []⟩, ⟨3, none, 0, []⟩] w :=
  ⟨Below.refl _ _, by simp, fun e he => by
    simp only [List.mem_cons, List.not_mem_nil, or_false] at he
    rcases he with rfl | rfl <;> exact Reads.none_⟩
theorem AW.drew (h : AW w L R W) : AW w L R W.drew := ⟨h.b.drew, h.l, h.r⟩
theorem AW.call (h : AW w L R W) (hb : Below W.heap.size W W') : AW w L R W' :=
  ⟨h.b.trans (hb.mono h.b.size), fun e he => (h.l e he).below hb (h.l e he).lt, fun e he => ((h.r e he).below hb).more hb.size⟩
theorem AW.alloc (h : AW w L R W) (o : Obj) : AW w L R (W.alloc o) :=
  ⟨h.b.alloc h.b.size _, fun e he => (h.l e he).alloc _, fun e he => ((h.r e he).alloc (Nat.le_refl _) o).more (by simp)⟩
theorem AW.put (h : AW w L R W) (t : TypeId) (cs : Array Value) : AW w (⟨W.heap.size, t, cs⟩ :: L) R (W.alloc (.cells cs t)) :=
  ⟨(h.alloc _).b, fun e he => by
    rcases List.mem_cons.1 he with rfl | he
    · exact Blk.new _ _ _
    · exact (h.alloc _).l e he, (h.alloc _).r⟩
theorem AW.put' (h : AW w L R W) (t : TypeId) (cs : Array Value) {g : Nat} (hg : g = W.heap.size) : AW w (⟨g, t, cs⟩ :: L) R (W.alloc (.cells cs t)) := hg ▸ h.put t cs
theorem AW.read (h : AW w L R W) {e : Rd} (he : Reads W W.heap.size e.size e.A e.n e.xs) : AW w L (e :: R) W :=
  ⟨h.b, h.l, fun x hx => by
    rcases List.mem_cons.1 hx with rfl | hx
    · exact he
    · exact h.r x hx⟩
theorem AW.array (h : AW w L R W) (t : TypeId) (cs : Array Value) (k n : Nat) (hl : cs.size = n * k) : AW w L (⟨k, some ⟨W.heap.size, 0, none⟩, n, cs.toList⟩ :: R) (W.alloc (.cells cs t)) :=
  (h.alloc _).read (reads_new W t cs k n _ _ rfl (by simp) hl)
theorem AW.less (h : AW w L R W) {L' : List Bk} {R' : List Rd} (hl : L' ⊆ L) (hr : R' ⊆ R) : AW w L' R' W := ⟨h.b, fun e he => h.l e (hl he), fun e he => h.r e (hr he)⟩
theorem IsRow.below {g k : Nat} (h : IsRow W g k) (hb : Below W.heap.size W W') : IsRow W' g k := by
  obtain ⟨t, cs, hB, hk⟩ := h
  exact ⟨t, cs, hB.below hb hB.lt, hk⟩
theorem Reads.call {k n : Nat} {A : Option Addr} {xs : List Value} (h : Reads W W.heap.size k A n xs) (hb : Below W.heap.size W W') : Reads W' W'.heap.size k A n xs := (h.below hb).more hb.size
end
end Go.Proofs.Ytjliakjbdcplcaa
end

import Derived.Test.YtjliakjbdcplcaaP6
import Derived.Test.YtjliakjbdcplcaaP7
import Derived.Test.YtjliakjbdcplcaaP8
import Derived.Test.YtjliakjbdcplcaaP9
import Derived.Test.YtjliakjbdcplcaaP11
section
namespace Go.Proofs.Ytjliakjbdcplcaa.Vm
theorem b76 {P : Prop} (h : P := by (repeat' (first | exact trivial | exact rfl | assumption | apply Stable.ite | apply And.intro | intro _ | (simp only [Stable, StableL, i64S, prS, insS, sndsS, sndS, evtsS, evtS, prO, i64O, inO, HB.stable]; done)))) : P := h
theorem b77 {P : Prop} (h : P := by (repeat' (first | exact trivial | exact rfl | assumption | apply Stable.ite | apply And.intro | intro _ | (simp only [Stable, StableL, dnR, i64S, prS, insS, sndsS, sndS, evtsS, evtS, prO, i64O, inO, HB.stable]; done)))) : P := h
theorem b78 {P : Prop} (h : P := by (simp only [push_cast, ↓JP, Nat.reduceAdd, Nat.reduceEqDiff, Nat.reduceLT, Nat.reduceMul, Nat.reduceLeDiff, reduceCtorEq, reduceIte, evtsS, evtS, inN]; rfl)) : P := h
theorem b79 {P : Prop} (h : P := by (simp only [push_cast, ↓JP, Nat.reduceAdd, Nat.reduceEqDiff, Nat.reduceLT, Nat.reduceMul, Nat.reduceLeDiff, reduceCtorEq, reduceIte, ↓JK, JE, evtS, cTk, sKRight, inR, inN, hk]; rfl)) : P := h
theorem b80 {P : Prop} (h : P := by (simp only [push_cast, ↓JP, Nat.reduceAdd, Nat.reduceEqDiff, Nat.reduceLT, Nat.reduceMul, Nat.reduceLeDiff, reduceCtorEq, reduceIte, ↓JK, JE, cPs, sEqIns, sEqI64, sEqInt, inR, inN, q1, q2, q3, q4, q5]; rfl)) : P := h
theorem b81 {P : Prop} (h : P := by (first | exact True.intro | ((try simp only [JS, implies_true, forall_const, shaped, shapedL, kndOf]); (repeat' (first | exact True.intro | assumption | omega | apply And.intro | rfl | decide | intro _)); done) | ((try simp only [JS, implies_true, forall_const, shaped, shapedL, kndOf, inR, inN]); (repeat' (first | assumption | exact True.intro | omega | apply And.intro)); done))) : P := h
theorem b82 {P : Prop} (h : P := by (simp only [push_cast, ↓JP, Nat.reduceAdd, Nat.reduceEqDiff, Nat.reduceLT, Nat.reduceMul, Nat.reduceLeDiff, reduceCtorEq, reduceIte, ↓JK, evm_sn, DnI.at_, dnR, cH1, rH1, cloP, dnI, nodupN, memN, JE, isI_int, inR, inN]; rfl)) : P := h
theorem b83 {P : Prop} (h : P := by (simp only [push_cast, ↓JP, Nat.reduceAdd, Nat.reduceEqDiff, Nat.reduceLT, Nat.reduceMul, Nat.reduceLeDiff, reduceCtorEq, reduceIte, ↓JK, evm_sn, DnI.at_, dnR, cH1, rH1, cloP, dnI, nodupN, memN, JE, isI_int, inR, inN, hkl, hn']; rfl)) : P := h
end Go.Proofs.Ytjliakjbdcplcaa.Vm
end
section
namespace Go.Proofs.Ytjliakjbdcplcaa
open  Go.RowKit
set_option linter.unusedVariables false
set_option linter.unusedSimpArgs false
theorem infoInt : (Try.prog.info? 3).map (fun i => (i.zero, i.size, i.bytes)) = some (some (.int .i64 0), 1, 8) := by kernel_rfl
set_option maxRecDepth 100000 in
set_option maxHeartbeats 1000000 in
theorem cloneInt_some (ad : Addr) (n c : Nat) (xs : List Value) (w : World) (h : Reads w w.heap.size 1 (some ad) n xs) (h1 : ∀ u ∈ xs, u.oneCell' = true) (hn : n * 8 ≤ 140737488355328) (hm : n ≤ maxLen) :
    Calls Try.prog 61 #[.slice (some ad) n c] w fun e w' => ∃ v, e = .returned v ∧ w'.ownsRow w.heap.size 3 1 v (0 + n) ([] ++ xs) ∧ Below w.heap.size w w' := by
  obtain ⟨i0, hi, hz0, hz1, hz2⟩ := info_parts infoInt
  have hr := (h.alloc (Nat.le_refl _) (.cells #[] 3))
  have H1 := Lib.hid h1
  have HN := Lib.hid hn
  have HM := Lib.hid hm
  have HR := Lib.hid hr
  clear h h1 hn hm hr
  have kn := fun (w : World) (a : Option Addr) (n c : Nat) => eql_nil (P := Try.prog) w 69 3 a n c Try.underlying69
  go_enter Try.func61, Try.ntmps61
  go_wp2_with (at_builtin
               refine wpList_append_any _ rfl (.tmp 5) (.tmp 6) _ rfl w.heap.size 3 i0 _ 1 8 Try.underlying69 hi hz0 hz1 hz2 rfl (by omega) (.slice (some ⟨w.heap.size, 0, none⟩) 0 0) 0 [] rfl
                 (World.ownsRow_made w #[] 0 (Nat.le_refl _) (Nat.zero_le _) rfl) w.heap.size (some ad) n c xs rfl HR.out H1.out (by have := HM.out; omega) (by have := HN.out; omega) (by simp) ?_
               intro v1 w1 hown1 hg1 hat1)
  go_ret
  refine ⟨v1, rfl, hown1, ((Below.refl _ w).alloc (Nat.le_refl _) _).grown hg1 (by simp) (fun k hk => ?_)⟩
  rcases hat1 with e | e <;> simp [Value.ownBlock] at hk <;> omega
theorem cloneInt_nil (n c : Nat) (w : World) :
    Calls Try.prog 61 #[.slice none n c] w fun e w' => e = .returned (.slice none 0 0) ∧ w = w' := by
  have kn := fun (w : World) (a : Option Addr) (n c : Nat) => eql_nil (P := Try.prog) w 69 3 a n c Try.underlying69
  go_enter Try.func61, Try.ntmps61
  go_wp2
  go_ret
  exact ⟨rfl, rfl⟩
theorem cloneInt_c (A : Option Addr) (n c : Nat) (xs : List Value) (w : World) (h : Reads w w.heap.size 1 A n xs) (h1 : ∀ u ∈ xs, u.oneCell' = true) (hn : n * 8 ≤ 140737488355328) :
    Calls Try.prog 61 #[.slice A n c] w fun e w' => ∃ v, e = .returned v ∧ w'.ownsRow w.heap.size 3 1 v n xs ∧ Below w.heap.size w w' := by
  cases A with
  | none =>
    have hn0 : n = 0 := by
      rcases Nat.eq_zero_or_pos n with h0 | h0
      · exact h0
      · obtain ⟨ad, e, _⟩ := h.2 h0
        cases e
    subst hn0
    have hx : xs = [] := List.eq_nil_of_length_eq_zero (by simpa using h.1)
    subst hx
    refine (cloneInt_nil 0 c w).mono ?_
    rintro e w' ⟨rfl, rfl⟩
    exact ⟨_, rfl, World.ownsRow_nil _ _ _ _, Below.refl _ _⟩
  | some ad =>
    have hm : n ≤ maxLen := by unfold maxLen; omega
    refine (cloneInt_some ad n c xs w h h1 hn hm).mono ?_
    rintro e w' ⟨v, rfl, ho, hb⟩
    exact ⟨v, rfl, by simpa using ho, hb⟩

namespace Vm
open Go.RowKit
attribute [local push_cast] runR opG gtmp gval gus opX tmpsOf tm tmO tmP restr look look2 tab tys zs ets eqB eqBL allB numOf ieq Int.cast_ofNat_Int Int.ofNat_zero beq_true beq_false frameOf ev evL ofV opV loadV noW pushF wrsL setH allBorn allGone HB.born HB.isGone HB.val SV.plain dstOk hp nav fitsT SV.size sizeL SV.isAgg TK.size TK.agg bin binE binN binI arN arI cmpN cmpI keq kn narrow callV storeV setp fillV buildV buildSliceV makeV sliceV appendV appendFV slice3V copyV List.isEmpty_nil srcV evO asN ite_t ite_f ite_bool ite_int ite_nat maxV v_beq v_ble v_blt cond_true cond_false List.getElem?_cons_zero List.getElem?_cons_succ List.getD_cons_zero List.getD_cons_succ List.getD_nil List.length_cons List.length_nil List.take_succ_cons List.take_zero List.set_cons_zero List.set_cons_succ List.cons_append List.nil_append List.append_assoc List.replicate_succ List.replicate_zero Nat.zero_add Nat.add_zero decide_true decide_false Bool.true_and Bool.and_true Bool.false_and Bool.and_false Bool.true_or Bool.or_true Bool.false_or Bool.or_false beq_self_eq_true Bool.or_self Nat.lt_irrefl Nat.not_lt_zero Nat.le_refl Option.getD_some Option.getD_none BEq.rfl Bool.not_true Bool.not_false Bool.cond_true_left Bool.cond_false_right
set_option maxRecDepth 100000
set_option maxHeartbeats 4000000
def sClN : Spec := fun args h m => match args with
  | [v] => match srcV h 1 (.tup []) v with
    | some (c, n, f, rd) => some (c ∧ (∀ q, q < n → isI .i64 (f q) = true) ∧ n ≤ 1000000, .sl m m [] 1 0 n none, rd, [(m, .own 3 (.arr n 1 (i64S (ls iOf n f))) false)])
    | _ => none
  | _ => none
theorem sClN_ok : CallOk Try.prog 61 sClN := by
  refine ⟨named_spec (by kernel_rfl), fun args h m c v rd wr hs hm hc w0 M β h' w R hrd hwr hst => ?_⟩
  unfold sClN at hs
  split at hs
  · rename_i v0
    split at hs
    · rename_i c' n f rd' ha
      simp only [Option.some.injEq, Prod.mk.injEq] at hs
      obtain ⟨rfl, rfl, rfl, rfl⟩ := hs
      obtain ⟨hc1, hi, hn⟩ := hc
      obtain ⟨A, cap, hden, hnc, hr⟩ := reads_src R ha hc1 hrd (by omega)
      simp only [denL, hden]
      refine (cloneInt_c A n cap _ w hr (fun u hu => elems_sane u hu) (by omega)).mono fun e w' he => ?_
      obtain ⟨p, rfl, ho, hb⟩ := he
      have hmd : h' m = .dead := (hwr _ (.head _)).trans (hm m (Nat.le_refl _))
      obtain ⟨e', R', hv⟩ := (R.below hb).made (f := i64S (ls iOf n f)) hmd ho R.size (by
          rw [elems_i64 hi]
          have := elems_i64S (β := β) (ls iOf n f)
          rwa [ls_length] at this) i64S_stable (fun g i a' hg hmi hai e => by
        have := R.lt i a' hmi hai
        obtain ⟨_, ⟨rfl, _⟩ | ⟨g', cap', cur, rfl, hg', _⟩⟩ := ho
        · cases hg
        · simp [Value.ownBlock] at hg
          omega)
      exact ⟨_, agree_setE hmd, R', stable_new, by rw [hv]⟩
    · cases hs
  · cases hs
theorem eqInt_lit (xs ys : List Int) (p1 p2 : Nat) (hx : xs.length ≤ 281474976710656) : LitOk Try.prog 87 [.sl 1 2 [] 1 0 xs.length (some p1), .sl 3 4 [] 1 0 ys.length (some p2)] [.gone, .gone, .ro (.arr xs.length 1 (i64S xs)), .gone, .ro (.arr ys.length 1 (i64S ys))] (.bool (eqL xs ys)) [.gone] := by
  refine litOkM (fn := Try.f87) 5 26 0 rfl rfl rfl rfl rfl (by simp only [StableL, Stable, hp]; simp [HB.born]) rfl fun w0 M E hro => ?_
  repeat' (first | refine Ctl.h ?_ | ((with_reducible intro hif); first | (focus (cases hif; done)) | (simp only [JH] at hif; try (exfalso; omega)) | (try (exfalso; omega))) | ((first | ((with_reducible apply J22 c1_ok tab_ok); (· rfl)) | ((with_reducible apply J23 fol c1_ok tab_ok); (· rfl)) | with_reducible apply J24); (· exact Vm.b14); (try kernel_rfl); (try exact Vm.b13)) | fail)
  · have hne : xs ≠ ys := fun e => hif (by rw [e])
    apply At.endsRet tab_ok (fn := Try.f87) (rs := [.tmp 4]) Anc.refl hro (Nat.le_of_ble_eq_true rfl) rfl
    · exact Vm.b6
    · exact Vm.b7
    · exact Vm.b8
    · rfl
    · exact Vm.b26
    · exact Vm.b10
    · rw [eqL_false hne]; exact fun β => rfl
    · exact Vm.b26
  · refine WF.loopAt (fun j => j ≤ xs.length ∧ ∀ q, q < j → xs.getD q 0 = ys.getD q 0) (fun j => [(0, .sl 1 2 [] 1 0 xs.length (some p1)), (1, .sl 3 4 [] 1 0 ys.length (some p2)), (12, .nat .i64 xs.length), (13, .nat .i64 j)]) (fun j => [.gone, .gone, .ro (.arr xs.length 1 (i64S xs)), .gone, .ro (.arr ys.length 1 (i64S ys))]) (fun j => xs.length - j) 0 ⟨Nat.zero_le _, fun q hq => absurd hq (Nat.not_lt_zero q)⟩ ?_ ?_ rfl ?_ ?_ rfl ?_
    · exact Vm.b11
    · exact Vm.b8
    · exact Vm.b26
    · exact Vm.b26
    have hlen := hif
    rintro j ⟨hj, heq⟩
    repeat' (first | refine Ctl.h ?_ | ((with_reducible intro hif); first | (focus (cases hif; done)) | (simp only [JH] at hif; try (exfalso; omega)) | (try (exfalso; omega))) | ((first | ((with_reducible apply J22 c1_ok tab_ok); (· rfl)) | ((with_reducible apply J23 fol c1_ok tab_ok); (· rfl)) | with_reducible apply J24); (· (simp only [push_cast, ↓JP, Nat.reduceAdd, Nat.reduceEqDiff, Nat.reduceLT, Nat.reduceMul, Nat.reduceLeDiff, reduceCtorEq, reduceIte, i64S, inN]; rfl)); (try kernel_rfl); (try exact Vm.b15)) | fail)
    · have hne : xs ≠ ys := by rintro rfl; simp at hif
      apply At.endsRet tab_ok (fn := Try.f87) (rs := [.tmp 4]) Anc.refl hro (Nat.le_of_ble_eq_true rfl) rfl
      · exact Vm.b6
      · exact Vm.b7
      · exact Vm.b8
      · rfl
      · exact Vm.b26
      · exact Vm.b10
      · rw [eqL_false hne]; exact fun β => rfl
      · exact Vm.b26
    · have hq : xs.getD j 0 = ys.getD j 0 := hif
      refine At.next (j + 1) ?_ ?_ ?_ rfl ?_ ?_ rfl
      · exact Vm.b12
      · exact Vm.b11
      · exact Vm.b8
      · exact Vm.b26
      · exact Vm.b26
    · have hjn : j = xs.length := by omega
      subst hjn
      have he : xs = ys := ext_getD 0 hlen heq
      apply At.endsRet tab_ok (fn := Try.f87) (rs := [.tmp 4]) Anc.refl hro (Nat.le_of_ble_eq_true rfl) rfl
      · exact Vm.b6
      · exact Vm.b7
      · exact Vm.b8
      · rfl
      · exact Vm.b26
      · exact Vm.b10
      · rw [eqL_true he]; exact fun β => rfl
      · exact Vm.b26
def sEqInt : Spec := fun args h m => match args with
  | [v1, v2] => match srcV h 1 (.tup []) v1, srcV h 1 (.tup []) v2 with
    | some (c1, n1, f1, r1), some (c2, n2, f2, r2) => some (c1 ∧ c2 ∧ (∀ q, q < n1 → isI .i64 (f1 q) = true) ∧ (∀ q, q < n2 → isI .i64 (f2 q) = true) ∧ ((ls iOf n1 f1).length ≤ 281474976710656), .bool (eqL (ls iOf n1 f1) (ls iOf n2 f2)), r1 ++ r2, [])
    | _, _ => none
  | _ => none
theorem sEqInt_ok : CallOk Try.prog 87 sEqInt := by
  refine ⟨named_spec (by kernel_rfl), fun args h m c v rd wr hs hm hc w0 M β h' w R hrd hwr hst => ?_⟩
  unfold sEqInt at hs
  split at hs
  · rename_i v1 v2
    split at hs
    · rename_i c1 n1 f1 r1 c2 n2 f2 r2 a1 a2
      simp only [Option.some.injEq, Prod.mk.injEq] at hs
      obtain ⟨rfl, rfl, rfl, rfl⟩ := hs
      obtain ⟨k1, k2, g1, g2, y1⟩ := hc
      obtain ⟨A1, p1, d1, e1, t1⟩ := reads_src R a1 k1 (fun i hi => hrd i (List.mem_append_left _ hi)) (by omega)
      obtain ⟨A2, p2, d2, e2, t2⟩ := reads_src R a2 k2 (fun i hi => hrd i (List.mem_append_right _ hi)) (by omega)
      refine callRo (views := [⟨1, (ls iOf n1 f1).length, i64S (ls iOf n1 f1), A1, p1⟩, ⟨1, (ls iOf n2 f2).length, i64S (ls iOf n2 f2), A2, p2⟩]) (eqInt_lit (ls iOf n1 f1) (ls iOf n2 f2) p1 p2 y1) ?_ R hm hwr ?_ ?_ ?_
      · intro x hx
        simp only [List.mem_cons, List.not_mem_nil, or_false] at hx
        rcases hx with rfl | rfl
        · exact viewI64 t1 e1 g1
        · exact viewI64 t2 e2 g2
      · intro β1 hv
        simp only [Vd, ls_length, and_true] at hv
        obtain ⟨z1, z2⟩ := hv
        simp only [denL, aggDen, intDen, natDen, boolDen, ls_length, z1, z2, d1, d2]
      · exact Vm.b26
      · exact Vm.b26
    · cases hs
  · cases hs
theorem eqIns_lit (xs ys : List Ins) (p1 p2 : Nat) (hx : xs.length ≤ 281474976710656) : LitOk Try.prog 86 [.sl 1 2 [] 5 0 xs.length (some p1), .sl 3 4 [] 5 0 ys.length (some p2)] [.gone, .gone, .ro (.arr xs.length 5 (prS xs)), .gone, .ro (.arr ys.length 5 (prS ys))] (.bool (eqL xs ys)) [.gone] := by
  refine litOkM (fn := Try.f86) 5 26 0 rfl rfl rfl rfl rfl (by simp only [StableL, Stable, hp]; simp [HB.born]) rfl fun w0 M E hro => ?_
  repeat' (first | refine Ctl.h ?_ | ((with_reducible intro hif); first | (focus (cases hif; done)) | (simp only [JH] at hif; try (exfalso; omega)) | (try (exfalso; omega))) | ((first | ((with_reducible apply J22 c1_ok tab_ok); (· rfl)) | ((with_reducible apply J23 fol c1_ok tab_ok); (· rfl)) | with_reducible apply J24); (· exact Vm.b14); (try kernel_rfl); (try exact Vm.b13)) | fail)
  · have hne : xs ≠ ys := fun e => hif (by rw [e])
    apply At.endsRet tab_ok (fn := Try.f86) (rs := [.tmp 4]) Anc.refl hro (Nat.le_of_ble_eq_true rfl) rfl
    · exact Vm.b6
    · exact Vm.b7
    · exact Vm.b8
    · rfl
    · exact Vm.b26
    · exact Vm.b10
    · rw [eqL_false hne]; exact fun β => rfl
    · exact Vm.b26
  · refine WF.loopAt (fun j => j ≤ xs.length ∧ ∀ q, q < j → xs.getD q ⟨0, 0, 0, 0, 0⟩ = ys.getD q ⟨0, 0, 0, 0, 0⟩) (fun j => [(0, .sl 1 2 [] 5 0 xs.length (some p1)), (1, .sl 3 4 [] 5 0 ys.length (some p2)), (12, .nat .i64 xs.length), (13, .nat .i64 j)]) (fun j => [.gone, .gone, .ro (.arr xs.length 5 (prS xs)), .gone, .ro (.arr ys.length 5 (prS ys))]) (fun j => xs.length - j) 0 ⟨Nat.zero_le _, fun q hq => absurd hq (Nat.not_lt_zero q)⟩ ?_ ?_ rfl ?_ ?_ rfl ?_
    · exact Vm.b11
    · exact Vm.b8
    · exact Vm.b26
    · exact Vm.b26
    have hlen := hif
    rintro j ⟨hj, heq⟩
    repeat' (first | refine Ctl.h ?_ | ((with_reducible intro hif); first | (focus (cases hif; done)) | (simp only [JH] at hif; try (exfalso; omega)) | (try (exfalso; omega))) | ((first | ((with_reducible apply J22 c1_ok tab_ok); (· rfl)) | ((with_reducible apply J23 fol c1_ok tab_ok); (· rfl)) | with_reducible apply J24); (· (simp only [push_cast, ↓JP, Nat.reduceAdd, Nat.reduceEqDiff, Nat.reduceLT, Nat.reduceMul, Nat.reduceLeDiff, reduceCtorEq, reduceIte, prS, insS, inN]; rfl)); (try kernel_rfl); (try exact Vm.b15)) | fail)
    · have hne : xs ≠ ys := by rintro rfl; simp at hif
      apply At.endsRet tab_ok (fn := Try.f86) (rs := [.tmp 4]) Anc.refl hro (Nat.le_of_ble_eq_true rfl) rfl
      · exact Vm.b6
      · exact Vm.b7
      · exact Vm.b8
      · rfl
      · exact Vm.b26
      · exact Vm.b10
      · rw [eqL_false hne]; exact fun β => rfl
      · exact Vm.b26
    · have hq : xs.getD j ⟨0, 0, 0, 0, 0⟩ = ys.getD j ⟨0, 0, 0, 0, 0⟩ := ins_ext (of_decide_eq_true hif.1) (of_decide_eq_true hif.2.1) (of_decide_eq_true hif.2.2.1) (of_decide_eq_true hif.2.2.2.1) (of_decide_eq_true hif.2.2.2.2)
      refine At.next (j + 1) ?_ ?_ ?_ rfl ?_ ?_ rfl
      · exact Vm.b12
      · exact Vm.b11
      · exact Vm.b8
      · exact Vm.b26
      · exact Vm.b26
    · have hjn : j = xs.length := by omega
      subst hjn
      have he : xs = ys := ext_getD ⟨0, 0, 0, 0, 0⟩ hlen heq
      apply At.endsRet tab_ok (fn := Try.f86) (rs := [.tmp 4]) Anc.refl hro (Nat.le_of_ble_eq_true rfl) rfl
      · exact Vm.b6
      · exact Vm.b7
      · exact Vm.b8
      · rfl
      · exact Vm.b26
      · exact Vm.b10
      · rw [eqL_true he]; exact fun β => rfl
      · exact Vm.b26
def sEqIns : Spec := fun args h m => match args with
  | [v1, v2] => match srcV h 5 (.tup []) v1, srcV h 5 (.tup []) v2 with
    | some (c1, n1, f1, r1), some (c2, n2, f2, r2) => some (c1 ∧ c2 ∧ (∀ q, q < n1 → isIns (f1 q) = true) ∧ (∀ q, q < n2 → isIns (f2 q) = true) ∧ ((ls insOf n1 f1).length ≤ 281474976710656), .bool (eqL (ls insOf n1 f1) (ls insOf n2 f2)), r1 ++ r2, [])
    | _, _ => none
  | _ => none
theorem sEqIns_ok : CallOk Try.prog 86 sEqIns := by
  refine ⟨named_spec (by kernel_rfl), fun args h m c v rd wr hs hm hc w0 M β h' w R hrd hwr hst => ?_⟩
  unfold sEqIns at hs
  split at hs
  · rename_i v1 v2
    split at hs
    · rename_i c1 n1 f1 r1 c2 n2 f2 r2 a1 a2
      simp only [Option.some.injEq, Prod.mk.injEq] at hs
      obtain ⟨rfl, rfl, rfl, rfl⟩ := hs
      obtain ⟨k1, k2, g1, g2, y1⟩ := hc
      obtain ⟨A1, p1, d1, e1, t1⟩ := reads_src R a1 k1 (fun i hi => hrd i (List.mem_append_left _ hi)) (by omega)
      obtain ⟨A2, p2, d2, e2, t2⟩ := reads_src R a2 k2 (fun i hi => hrd i (List.mem_append_right _ hi)) (by omega)
      refine callRo (views := [⟨5, (ls insOf n1 f1).length, prS (ls insOf n1 f1), A1, p1⟩, ⟨5, (ls insOf n2 f2).length, prS (ls insOf n2 f2), A2, p2⟩]) (eqIns_lit (ls insOf n1 f1) (ls insOf n2 f2) p1 p2 y1) ?_ R hm hwr ?_ ?_ ?_
      · intro x hx
        simp only [List.mem_cons, List.not_mem_nil, or_false] at hx
        rcases hx with rfl | rfl
        · exact viewIns t1 e1 g1
        · exact viewIns t2 e2 g2
      · intro β1 hv
        simp only [Vd, ls_length, and_true] at hv
        obtain ⟨z1, z2⟩ := hv
        simp only [denL, aggDen, intDen, natDen, boolDen, ls_length, z1, z2, d1, d2]
      · exact Vm.b26
      · exact Vm.b26
    · cases hs
  · cases hs
theorem evt_ext {a b : Evt} (h1 : a.time = b.time) (h2 : a.source = b.source) (h3 : a.seq = b.seq) (h4 : a.to_ = b.to_) (h5 : a.value = b.value) : a = b := by cases a; cases b; simp_all
theorem eqEvt_lit (xs ys : List Evt) (p1 p2 : Nat) (hx : xs.length ≤ 281474976710656) : LitOk Try.prog 52 [.sl 1 2 [] 5 0 xs.length (some p1), .sl 3 4 [] 5 0 ys.length (some p2)] [.gone, .gone, .ro (.arr xs.length 5 (evtsS xs)), .gone, .ro (.arr ys.length 5 (evtsS ys))] (.bool (eqL xs ys)) [.gone] := by
  refine litOkM (fn := Try.f52) 5 26 0 rfl rfl rfl rfl rfl (by simp only [StableL, Stable, hp]; simp [HB.born]) rfl fun w0 M E hro => ?_
  repeat' (first | refine Ctl.h ?_ | ((with_reducible intro hif); first | (focus (cases hif; done)) | (simp only [JH] at hif; try (exfalso; omega)) | (try (exfalso; omega))) | ((first | ((with_reducible apply J22 c1_ok tab_ok); (· rfl)) | ((with_reducible apply J23 fol c1_ok tab_ok); (· rfl)) | with_reducible apply J24); (· exact Vm.b14); (try kernel_rfl); (try exact Vm.b13)) | fail)
  · have hne : xs ≠ ys := fun e => hif (by rw [e])
    apply At.endsRet tab_ok (fn := Try.f52) (rs := [.tmp 4]) Anc.refl hro (Nat.le_of_ble_eq_true rfl) rfl
    · exact Vm.b6
    · exact Vm.b7
    · exact Vm.b8
    · rfl
    · exact Vm.b26
    · exact Vm.b10
    · rw [eqL_false hne]; exact fun β => rfl
    · exact Vm.b26
  · refine WF.loopAt (fun j => j ≤ xs.length ∧ ∀ q, q < j → xs.getD q ⟨0, 0, 0, 0, 0⟩ = ys.getD q ⟨0, 0, 0, 0, 0⟩) (fun j => [(0, .sl 1 2 [] 5 0 xs.length (some p1)), (1, .sl 3 4 [] 5 0 ys.length (some p2)), (12, .nat .i64 xs.length), (13, .nat .i64 j)]) (fun j => [.gone, .gone, .ro (.arr xs.length 5 (evtsS xs)), .gone, .ro (.arr ys.length 5 (evtsS ys))]) (fun j => xs.length - j) 0 ⟨Nat.zero_le _, fun q hq => absurd hq (Nat.not_lt_zero q)⟩ ?_ ?_ rfl ?_ ?_ rfl ?_
    · exact Vm.b11
    · exact Vm.b8
    · exact Vm.b26
    · exact Vm.b26
    have hlen := hif
    rintro j ⟨hj, heq⟩
    repeat' (first | refine Ctl.h ?_ | ((with_reducible intro hif); first | (focus (cases hif; done)) | (simp only [JH] at hif; try (exfalso; omega)) | (try (exfalso; omega))) | ((first | ((with_reducible apply J22 c1_ok tab_ok); (· rfl)) | ((with_reducible apply J23 fol c1_ok tab_ok); (· rfl)) | with_reducible apply J24); (· exact Vm.b78); (try kernel_rfl); (try exact Vm.b15)) | fail)
    · have hne : xs ≠ ys := by rintro rfl; simp at hif
      apply At.endsRet tab_ok (fn := Try.f52) (rs := [.tmp 4]) Anc.refl hro (Nat.le_of_ble_eq_true rfl) rfl
      · exact Vm.b6
      · exact Vm.b7
      · exact Vm.b8
      · rfl
      · exact Vm.b26
      · exact Vm.b10
      · rw [eqL_false hne]; exact fun β => rfl
      · exact Vm.b26
    · have hq : xs.getD j ⟨0, 0, 0, 0, 0⟩ = ys.getD j ⟨0, 0, 0, 0, 0⟩ := evt_ext (of_decide_eq_true hif.1.1) (of_decide_eq_true hif.1.2.1) (of_decide_eq_true hif.1.2.2) (of_decide_eq_true hif.2.1) (of_decide_eq_true hif.2.2)
      refine At.next (j + 1) ?_ ?_ ?_ rfl ?_ ?_ rfl
      · exact Vm.b12
      · exact Vm.b11
      · exact Vm.b8
      · exact Vm.b26
      · exact Vm.b26
    · have hjn : j = xs.length := by omega
      subst hjn
      have he : xs = ys := ext_getD ⟨0, 0, 0, 0, 0⟩ hlen heq
      apply At.endsRet tab_ok (fn := Try.f52) (rs := [.tmp 4]) Anc.refl hro (Nat.le_of_ble_eq_true rfl) rfl
      · exact Vm.b6
      · exact Vm.b7
      · exact Vm.b8
      · rfl
      · exact Vm.b26
      · exact Vm.b10
      · rw [eqL_true he]; exact fun β => rfl
      · exact Vm.b26
def sEqEvt : Spec := fun args h m => match args with
  | [v1, v2] => match srcV h 5 (.tup []) v1, srcV h 5 (.tup []) v2 with
    | some (c1, n1, f1, r1), some (c2, n2, f2, r2) => some (c1 ∧ c2 ∧ (∀ q, q < n1 → isEvt (f1 q) = true) ∧ (∀ q, q < n2 → isEvt (f2 q) = true) ∧ ((ls evtOf n1 f1).length ≤ 281474976710656), .bool (eqL (ls evtOf n1 f1) (ls evtOf n2 f2)), r1 ++ r2, [])
    | _, _ => none
  | _ => none
theorem sEqEvt_ok : CallOk Try.prog 52 sEqEvt := by
  refine ⟨named_spec (by kernel_rfl), fun args h m c v rd wr hs hm hc w0 M β h' w R hrd hwr hst => ?_⟩
  unfold sEqEvt at hs
  split at hs
  · rename_i v1 v2
    split at hs
    · rename_i c1 n1 f1 r1 c2 n2 f2 r2 a1 a2
      simp only [Option.some.injEq, Prod.mk.injEq] at hs
      obtain ⟨rfl, rfl, rfl, rfl⟩ := hs
      obtain ⟨k1, k2, g1, g2, y1⟩ := hc
      obtain ⟨A1, p1, d1, e1, t1⟩ := reads_src R a1 k1 (fun i hi => hrd i (List.mem_append_left _ hi)) (by omega)
      obtain ⟨A2, p2, d2, e2, t2⟩ := reads_src R a2 k2 (fun i hi => hrd i (List.mem_append_right _ hi)) (by omega)
      refine callRo (views := [⟨5, (ls evtOf n1 f1).length, evtsS (ls evtOf n1 f1), A1, p1⟩, ⟨5, (ls evtOf n2 f2).length, evtsS (ls evtOf n2 f2), A2, p2⟩]) (eqEvt_lit (ls evtOf n1 f1) (ls evtOf n2 f2) p1 p2 y1) ?_ R hm hwr ?_ ?_ ?_
      · intro x hx
        simp only [List.mem_cons, List.not_mem_nil, or_false] at hx
        rcases hx with rfl | rfl
        · exact viewEvt t1 e1 g1
        · exact viewEvt t2 e2 g2
      · intro β1 hv
        simp only [Vd, ls_length, and_true] at hv
        obtain ⟨z1, z2⟩ := hv
        simp only [denL, aggDen, intDen, natDen, boolDen, ls_length, z1, z2, d1, d2]
      · exact Vm.b26
      · exact Vm.b26
    · cases hs
  · cases hs
end Vm
end Go.Proofs.Ytjliakjbdcplcaa
end

section
open Go.Proofs.Ytjliakjbdcplcaa.Vm Go.RowKit
attribute [local push_cast] runR opG gtmp gval gus opX tmpsOf tm tmO tmP restr look look2 tab tys zs ets eqB eqBL allB numOf ieq Int.cast_ofNat_Int Int.ofNat_zero beq_true beq_false frameOf ev evL ofV opV loadV noW pushF wrsL setH allBorn allGone HB.born HB.isGone HB.val SV.plain dstOk hp nav fitsT SV.size sizeL SV.isAgg TK.size TK.agg bin binE binN binI arN arI cmpN cmpI keq kn narrow callV storeV setp fillV buildV buildSliceV makeV sliceV appendV appendFV slice3V copyV List.isEmpty_nil srcV evO asN ite_t ite_f ite_bool ite_int ite_nat maxV v_beq v_ble v_blt cond_true cond_false List.getElem?_cons_zero List.getElem?_cons_succ List.getD_cons_zero List.getD_cons_succ List.getD_nil List.length_cons List.length_nil List.take_succ_cons List.take_zero List.set_cons_zero List.set_cons_succ List.cons_append List.nil_append List.append_assoc List.replicate_succ List.replicate_zero Nat.zero_add Nat.add_zero decide_true decide_false Bool.true_and Bool.and_true Bool.false_and Bool.and_false Bool.true_or Bool.or_true Bool.false_or Bool.or_false beq_self_eq_true Bool.or_self Nat.lt_irrefl Nat.not_lt_zero Nat.le_refl Option.getD_some Option.getD_none BEq.rfl Bool.not_true Bool.not_false Bool.cond_true_left Bool.cond_false_right prS sndsS i64S nav_ins nav_ins0 nav_ins1 nav_ins2 nav_ins3 nav_ins4 nav_snd nav_snd0 nav_snd1 nav_snd2 isIns_insS insOf_insS isSnd_sndS sndOf_sndS isI_int isI_nat iOf
section
namespace Go.Proofs.Ytjliakjbdcplcaa.Vm
open Go.RowKit
set_option linter.unusedVariables false
set_option linter.unusedSimpArgs false
set_option maxRecDepth 100000
set_option maxHeartbeats 4000000
def i64O (l : List Int) : HB := .own 2 (.arr l.length 1 (i64S l)) false
def inO (l : List Int) : HB := .own 3 (.arr l.length 1 (i64S l)) false
def pcS (p : Prc) (i c q : Nat) : SV := .agg [.int .i64 p.id, .sl i i [] 5 0 p.P.length none, .sl c c [] 1 0 p.cells.length none, .int .i64 p.draws, .int .i64 p.seq, .sl q q [] 1 0 p.ports.length none]
def cCy : FuncId → Option Spec := look2 [(43, sClI), (50, sCl64), (61, sClN)]
theorem cCy_ok : ∀ f S, cCy f = some S → CallOk Try.prog f S := allOk_spec ⟨sClI_ok, sCl64_ok, sClN_ok, trivial⟩
theorem pcopy_lit (p : Prc) (p1 p2 p3 : Nat) (hn : p.P.length ≤ 1000000) (hc : p.cells.length ≤ 1000000) (hpo : p.ports.length ≤ 1000000) : LitOk Try.prog 54 [.agg [.int .i64 p.id, .sl 1 2 [] 5 0 p.P.length (some p1), .sl 3 4 [] 1 0 p.cells.length (some p2), .int .i64 p.draws, .int .i64 p.seq, .sl 5 6 [] 1 0 p.ports.length (some p3)]]
    [.gone, .gone, .ro (.arr p.P.length 5 (prS p.P)), .gone, .ro (.arr p.cells.length 1 (i64S p.cells)), .gone, .ro (.arr p.ports.length 1 (i64S p.ports))] (pcS p 7 8 9) [.gone, .gone, .gone, .gone, .gone, .gone, .gone, prO p.P, i64O p.cells, inO p.ports] := by
  refine litOkM (fn := Try.f54) 7 16 0 rfl rfl rfl rfl rfl (by simp only [StableL, Stable, hp, i64S, prS, insS, sndsS, sndS, evtsS, evtS, prO, i64O, inO, HB.stable]; simp [HB.born]) rfl fun w0 M E hro => ?_
  repeat' (first | refine Ctl.h ?_ | ((with_reducible intro hif); first | (focus (cases hif; done)) | (simp only [JH] at hif; try (exfalso; omega)) | (try (exfalso; omega))) | ((first | ((with_reducible apply J22 cCy_ok tab_ok); (· rfl)) | ((with_reducible apply J23 fol cCy_ok tab_ok); (· rfl)) | with_reducible apply J24); (· (simp only [push_cast, ↓JP, Nat.reduceAdd, Nat.reduceEqDiff, Nat.reduceLT, Nat.reduceMul, Nat.reduceLeDiff, reduceCtorEq, reduceIte, ↓JK, JE, prc_eta, cCy, sClI, sCl64, sClN, inR, inN]; rfl)); (try kernel_rfl); (try exact Vm.b22)) | fail)
  apply At.endsPick [0, 1, 2, 3, 4, 5, 6, 9, 10, 11] tab_ok (fn := Try.f54) (rs := [.cell 2 82]) Anc.refl hro (Nat.le_of_ble_eq_true rfl) rfl
  · exact Vm.b18
  · exact Vm.b24
  · rfl
  · rfl
  · rfl
  · exact Vm.b37
  · rfl
  · exact Vm.b76
  · exact Vm.b10
  · exact fun β => rfl
  · exact Vm.b76
def sPCopy : Spec := fun args h m => match args with
  | [.agg [v1, v2, v3, v4, v5, v6]] => match srcV h 5 (.tup []) v2, srcV h 1 (.tup []) v3, srcV h 1 (.tup []) v6 with
    | some (c2, n2, f2, r2), some (c3, n3, f3, r3), some (c6, n6, f6, r6) => bif isI .i64 v1 && isI .i64 v4 && isI .i64 v5 then some (c2 ∧ c3 ∧ c6 ∧ (∀ q, q < n2 → isIns (f2 q) = true) ∧ (∀ q, q < n3 → isI .i64 (f3 q) = true) ∧ (∀ q, q < n6 → isI .i64 (f6 q) = true) ∧ (n2 ≤ 1000000) ∧ (n3 ≤ 1000000) ∧ (n6 ≤ 1000000), pcS ⟨(iOf v1), (ls insOf n2 f2), (ls iOf n3 f3), (iOf v4), (iOf v5), (ls iOf n6 f6)⟩ m (m + 1) (m + 2), r2 ++ r3 ++ r6, [(m, prO (ls insOf n2 f2)), (m + 1, i64O (ls iOf n3 f3)), (m + 2, inO (ls iOf n6 f6))]) else none
    | _, _, _ => none
  | _ => none
theorem sPCopy_ok : CallOk Try.prog 54 sPCopy := by
  refine ⟨named_spec (by kernel_rfl), fun args h m c v rd wr hs hm hc w0 M β h' w R hrd hwr hst => ?_⟩
  unfold sPCopy at hs
  split at hs
  · rename_i v1 v2 v3 v4 v5 v6
    split at hs
    · rename_i c2 n2 f2 r2 c3 n3 f3 r3 c6 n6 f6 r6 a2 a3 a6
      obtain ⟨hb, hs⟩ := bif_some hs
      simp only [Option.some.injEq, Prod.mk.injEq] at hs
      obtain ⟨rfl, rfl, rfl, rfl⟩ := hs
      simp only [Bool.and_eq_true] at hb
      obtain ⟨⟨b1, b4⟩, b5⟩ := hb
      obtain ⟨k2, k3, k6, g2, g3, g6, y1, y2, y3⟩ := hc
      obtain ⟨A2, p2, d2, e2, t2⟩ := reads_src R a2 k2 (fun i hi => hrd i (List.mem_append_left _ (List.mem_append_left _ hi))) (by omega)
      obtain ⟨A3, p3, d3, e3, t3⟩ := reads_src R a3 k3 (fun i hi => hrd i (List.mem_append_left _ (List.mem_append_right _ hi))) (by omega)
      obtain ⟨A6, p6, d6, e6, t6⟩ := reads_src R a6 k6 (fun i hi => hrd i (List.mem_append_right _ hi)) (by omega)
      refine callRo (views := [⟨5, (ls insOf n2 f2).length, prS (ls insOf n2 f2), A2, p2⟩, ⟨1, (ls iOf n3 f3).length, i64S (ls iOf n3 f3), A3, p3⟩, ⟨1, (ls iOf n6 f6).length, i64S (ls iOf n6 f6), A6, p6⟩]) (pcopy_lit ⟨(iOf v1), (ls insOf n2 f2), (ls iOf n3 f3), (iOf v4), (iOf v5), (ls iOf n6 f6)⟩ p2 p3 p6 (by rw [ls_length]; exact y1) (by rw [ls_length]; exact y2) (by rw [ls_length]; exact y3)) ?_ R hm hwr ?_ ?_ ?_
      · intro x hx
        simp only [List.mem_cons, List.not_mem_nil, or_false] at hx
        rcases hx with rfl | rfl | rfl
        · exact viewIns t2 e2 g2
        · exact viewI64 t3 e3 g3
        · exact viewI64 t6 e6 g6
      · intro β1 hv
        simp only [Vd, ls_length, and_true] at hv
        obtain ⟨z2, z3, z6⟩ := hv
        simp only [denL, aggDen, intDen, natDen, boolDen, ls_length, z2, z3, z6, d2, d3, d6, isI_den b1, isI_den b4, isI_den b5]
      · exact Vm.b76
      · exact Vm.b76
    · cases hs
  · cases hs
def cTk : FuncId → Option Spec := look2 [(79, sKRight)]
theorem cTk_ok : ∀ f S, cTk f = some S → CallOk Try.prog f S := allOk_spec ⟨sKRight_ok, trivial⟩
theorem takes_true (p : Prc) (e : Evt) (p1 p2 p3 : Nat) (hk : keyB e.time e.source e.seq = true) : LitOk Try.prog 53 [.agg [.int .i64 p.id, .sl 1 2 [] 5 0 p.P.length (some p1), .sl 3 4 [] 1 0 p.cells.length (some p2), .int .i64 p.draws, .int .i64 p.seq, .sl 5 6 [] 1 0 p.ports.length (some p3)], evtS e]
    [.gone, .gone, .ro (.arr p.P.length 5 (prS p.P)), .gone, .ro (.arr p.cells.length 1 (i64S p.cells)), .gone, .ro (.arr p.ports.length 1 (i64S p.ports))] (.bool (takesB p e)) [.gone] := by
  obtain ⟨t, s, q, o, y⟩ := e
  dsimp only at hk
  refine litOkM (fn := Try.f53) 7 15 0 rfl rfl rfl rfl rfl (by simp only [StableL, Stable, hp, i64S, prS, insS, sndsS, sndS, evtsS, evtS, prO, i64O, inO, HB.stable]; simp [HB.born, evtS]) rfl fun w0 M E hro => ?_
  repeat' (first | refine Ctl.h ?_ | ((with_reducible intro hif); first | (focus (cases hif; done)) | (simp only [JH] at hif; try (exfalso; omega)) | (try (exfalso; omega))) | ((first | ((with_reducible apply J22 cTk_ok tab_ok); (· rfl)) | ((with_reducible apply J23 fol cTk_ok tab_ok); (· rfl)) | with_reducible apply J24); (· exact Vm.b79); (try kernel_rfl); (try exact Vm.b22)) | fail)
  apply At.endsRet tab_ok (fn := Try.f53) (rs := [.tmp 4]) Anc.refl hro (Nat.le_of_ble_eq_true rfl) rfl
  · exact Vm.b18
  · exact Vm.b7
  · exact Vm.b8
  · rfl
  · exact Vm.b76
  · exact Vm.b10
  · intro β; simp [resS, SV.den, takesB, hk]
  · exact Vm.b76
theorem takes_false (p : Prc) (e : Evt) (p1 p2 p3 : Nat) (hk : keyB e.time e.source e.seq = false) : LitOk Try.prog 53 [.agg [.int .i64 p.id, .sl 1 2 [] 5 0 p.P.length (some p1), .sl 3 4 [] 1 0 p.cells.length (some p2), .int .i64 p.draws, .int .i64 p.seq, .sl 5 6 [] 1 0 p.ports.length (some p3)], evtS e]
    [.gone, .gone, .ro (.arr p.P.length 5 (prS p.P)), .gone, .ro (.arr p.cells.length 1 (i64S p.cells)), .gone, .ro (.arr p.ports.length 1 (i64S p.ports))] (.bool (takesB p e)) [.gone] := by
  obtain ⟨t, s, q, o, y⟩ := e
  dsimp only at hk
  refine litOkM (fn := Try.f53) 7 15 0 rfl rfl rfl rfl rfl (by simp only [StableL, Stable, hp, i64S, prS, insS, sndsS, sndS, evtsS, evtS, prO, i64O, inO, HB.stable]; simp [HB.born, evtS]) rfl fun w0 M E hro => ?_
  repeat' (first | refine Ctl.h ?_ | ((with_reducible intro hif); first | (focus (cases hif; done)) | (simp only [JH] at hif; try (exfalso; omega)) | (try (exfalso; omega))) | ((first | ((with_reducible apply J22 cTk_ok tab_ok); (· rfl)) | ((with_reducible apply J23 fol cTk_ok tab_ok); (· rfl)) | with_reducible apply J24); (· exact Vm.b79); (try kernel_rfl); (try exact Vm.b22)) | fail)
  apply At.endsRet tab_ok (fn := Try.f53) (rs := [.tmp 4]) Anc.refl hro (Nat.le_of_ble_eq_true rfl) rfl
  · exact Vm.b18
  · exact Vm.b7
  · exact Vm.b8
  · rfl
  · exact Vm.b76
  · exact Vm.b10
  · intro β; simp [resS, SV.den, takesB, hk]
  · exact Vm.b76
theorem takes_lit (p : Prc) (e : Evt) (p1 p2 p3 : Nat) : LitOk Try.prog 53 [.agg [.int .i64 p.id, .sl 1 2 [] 5 0 p.P.length (some p1), .sl 3 4 [] 1 0 p.cells.length (some p2), .int .i64 p.draws, .int .i64 p.seq, .sl 5 6 [] 1 0 p.ports.length (some p3)], evtS e]
    [.gone, .gone, .ro (.arr p.P.length 5 (prS p.P)), .gone, .ro (.arr p.cells.length 1 (i64S p.cells)), .gone, .ro (.arr p.ports.length 1 (i64S p.ports))] (.bool (takesB p e)) [.gone] := by
  cases hk : keyB e.time e.source e.seq
  · exact takes_false p e p1 p2 p3 hk
  · exact takes_true p e p1 p2 p3 hk
def sTakes : Spec := fun args h m => match args with
  | [.agg [v1, v2, v3, v4, v5, v6], v7] => match srcV h 5 (.tup []) v2, srcV h 1 (.tup []) v3, srcV h 1 (.tup []) v6 with
    | some (c2, n2, f2, r2), some (c3, n3, f3, r3), some (c6, n6, f6, r6) => bif isI .i64 v1 && isI .i64 v4 && isI .i64 v5 && isEvt v7 then some (c2 ∧ c3 ∧ c6 ∧ (∀ q, q < n2 → isIns (f2 q) = true) ∧ (∀ q, q < n3 → isI .i64 (f3 q) = true) ∧ (∀ q, q < n6 → isI .i64 (f6 q) = true), .bool (takesB ⟨(iOf v1), (ls insOf n2 f2), (ls iOf n3 f3), (iOf v4), (iOf v5), (ls iOf n6 f6)⟩ (evtOf v7)), r2 ++ r3 ++ r6, []) else none
    | _, _, _ => none
  | _ => none
theorem sTakes_ok : CallOk Try.prog 53 sTakes := by
  refine ⟨named_spec (by kernel_rfl), fun args h m c v rd wr hs hm hc w0 M β h' w R hrd hwr hst => ?_⟩
  unfold sTakes at hs
  split at hs
  · rename_i v1 v2 v3 v4 v5 v6 v7
    split at hs
    · rename_i c2 n2 f2 r2 c3 n3 f3 r3 c6 n6 f6 r6 a2 a3 a6
      obtain ⟨hb, hs⟩ := bif_some hs
      simp only [Option.some.injEq, Prod.mk.injEq] at hs
      obtain ⟨rfl, rfl, rfl, rfl⟩ := hs
      simp only [Bool.and_eq_true] at hb
      obtain ⟨⟨⟨b1, b4⟩, b5⟩, b7⟩ := hb
      obtain ⟨k2, k3, k6, g2, g3, g6⟩ := hc
      obtain ⟨A2, p2, d2, e2, t2⟩ := reads_src R a2 k2 (fun i hi => hrd i (List.mem_append_left _ (List.mem_append_left _ hi))) (by omega)
      obtain ⟨A3, p3, d3, e3, t3⟩ := reads_src R a3 k3 (fun i hi => hrd i (List.mem_append_left _ (List.mem_append_right _ hi))) (by omega)
      obtain ⟨A6, p6, d6, e6, t6⟩ := reads_src R a6 k6 (fun i hi => hrd i (List.mem_append_right _ hi)) (by omega)
      refine callRo (views := [⟨5, (ls insOf n2 f2).length, prS (ls insOf n2 f2), A2, p2⟩, ⟨1, (ls iOf n3 f3).length, i64S (ls iOf n3 f3), A3, p3⟩, ⟨1, (ls iOf n6 f6).length, i64S (ls iOf n6 f6), A6, p6⟩]) (takes_lit ⟨(iOf v1), (ls insOf n2 f2), (ls iOf n3 f3), (iOf v4), (iOf v5), (ls iOf n6 f6)⟩ (evtOf v7) p2 p3 p6) ?_ R hm hwr ?_ ?_ ?_
      · intro x hx
        simp only [List.mem_cons, List.not_mem_nil, or_false] at hx
        rcases hx with rfl | rfl | rfl
        · exact viewIns t2 e2 g2
        · exact viewI64 t3 e3 g3
        · exact viewI64 t6 e6 g6
      · intro β1 hv
        simp only [Vd, ls_length, and_true] at hv
        obtain ⟨z2, z3, z6⟩ := hv
        simp only [denL, aggDen, intDen, natDen, boolDen, ls_length, z2, z3, z6, d2, d3, d6, isI_den b1, isI_den b4, isI_den b5, den_evtOf b7, den_evtS]
      · exact Vm.b76
      · exact Vm.b76
    · cases hs
  · cases hs
def eqP (a b : Prc) : Bool := decide (a.id = b.id) && (eqL a.P b.P && (eqL a.cells b.cells && (decide (a.draws = b.draws) && (decide (a.seq = b.seq) && eqL a.ports b.ports))))
def cPs : FuncId → Option Spec := look2 [(86, sEqIns), (20, sEqI64), (87, sEqInt)]
theorem cPs_ok : ∀ f S, cPs f = some S → CallOk Try.prog f S := allOk_spec ⟨sEqIns_ok, sEqI64_ok, sEqInt_ok, trivial⟩
theorem psame_lit (a b : Prc) (p1 p2 p3 p4 p5 p6 : Nat) (hn : a.P.length ≤ 1000000) (hc : a.cells.length ≤ 1000000) (hpo : a.ports.length ≤ 1000000) : LitOk Try.prog 59 [.agg [.int .i64 a.id, .sl 1 2 [] 5 0 a.P.length (some p1), .sl 3 4 [] 1 0 a.cells.length (some p2), .int .i64 a.draws, .int .i64 a.seq, .sl 5 6 [] 1 0 a.ports.length (some p3)], .agg [.int .i64 b.id, .sl 7 8 [] 5 0 b.P.length (some p4), .sl 9 10 [] 1 0 b.cells.length (some p5), .int .i64 b.draws, .int .i64 b.seq, .sl 11 12 [] 1 0 b.ports.length (some p6)]]
    [.gone, .gone, .ro (.arr a.P.length 5 (prS a.P)), .gone, .ro (.arr a.cells.length 1 (i64S a.cells)), .gone, .ro (.arr a.ports.length 1 (i64S a.ports)), .gone, .ro (.arr b.P.length 5 (prS b.P)), .gone, .ro (.arr b.cells.length 1 (i64S b.cells)), .gone, .ro (.arr b.ports.length 1 (i64S b.ports))] (.bool (eqP a b)) [.gone] := by
  have hn2 : a.P.length ≤ 281474976710656 := by omega
  have hc2 : a.cells.length ≤ 281474976710656 := by omega
  have hp2 : a.ports.length ≤ 281474976710656 := by omega
  by_cases q1 : a.id = b.id
  case neg =>
    have e : eqP a b = false := by simp [eqP, q1]
    rw [e]
    refine litOkM (fn := Try.f59) 13 45 0 rfl rfl rfl rfl rfl (by simp only [StableL, Stable, hp, i64S, prS, insS, sndsS, sndS, evtsS, evtS, prO, i64O, inO, HB.stable]; simp [HB.born]) rfl fun w0 M E hro => ?_
    repeat' (first | refine Ctl.h ?_ | ((with_reducible intro hif); first | (focus (cases hif; done)) | (simp only [JH] at hif; try (exfalso; omega)) | (try (exfalso; omega))) | ((first | ((with_reducible apply J22 cPs_ok tab_ok); (· rfl)) | ((with_reducible apply J23 fol cPs_ok tab_ok); (· rfl)) | with_reducible apply J24); (· (simp only [push_cast, ↓JP, Nat.reduceAdd, Nat.reduceEqDiff, Nat.reduceLT, Nat.reduceMul, Nat.reduceLeDiff, reduceCtorEq, reduceIte, ↓JK, JE, cPs, sEqIns, sEqI64, sEqInt, inR, inN, q1]; rfl)); (try kernel_rfl); (try exact Vm.b22)) | fail)
    apply At.endsRet tab_ok (fn := Try.f59) (rs := [.tmp 4]) Anc.refl hro (Nat.le_of_ble_eq_true rfl) rfl
    · exact Vm.b18
    · exact Vm.b7
    · exact Vm.b8
    · rfl
    · exact Vm.b76
    · exact Vm.b10
    · exact fun β => rfl
    · exact Vm.b76
  cases q2 : eqL a.P b.P
  · skip
    have e : eqP a b = false := by simp [eqP, q1, q2]
    rw [e]
    refine litOkM (fn := Try.f59) 13 45 0 rfl rfl rfl rfl rfl (by simp only [StableL, Stable, hp, i64S, prS, insS, sndsS, sndS, evtsS, evtS, prO, i64O, inO, HB.stable]; simp [HB.born]) rfl fun w0 M E hro => ?_
    repeat' (first | refine Ctl.h ?_ | ((with_reducible intro hif); first | (focus (cases hif; done)) | (simp only [JH] at hif; try (exfalso; omega)) | (try (exfalso; omega))) | ((first | ((with_reducible apply J22 cPs_ok tab_ok); (· rfl)) | ((with_reducible apply J23 fol cPs_ok tab_ok); (· rfl)) | with_reducible apply J24); (· (simp only [push_cast, ↓JP, Nat.reduceAdd, Nat.reduceEqDiff, Nat.reduceLT, Nat.reduceMul, Nat.reduceLeDiff, reduceCtorEq, reduceIte, ↓JK, JE, cPs, sEqIns, sEqI64, sEqInt, inR, inN, q1, q2]; rfl)); (try kernel_rfl); (try exact Vm.b22)) | fail)
    apply At.endsRet tab_ok (fn := Try.f59) (rs := [.tmp 4]) Anc.refl hro (Nat.le_of_ble_eq_true rfl) rfl
    · exact Vm.b18
    · exact Vm.b7
    · exact Vm.b8
    · rfl
    · exact Vm.b76
    · exact Vm.b10
    · exact fun β => rfl
    · exact Vm.b76
  · skip
    cases q3 : eqL a.cells b.cells
    · skip
      have e : eqP a b = false := by simp [eqP, q1, q2, q3]
      rw [e]
      refine litOkM (fn := Try.f59) 13 45 0 rfl rfl rfl rfl rfl (by simp only [StableL, Stable, hp, i64S, prS, insS, sndsS, sndS, evtsS, evtS, prO, i64O, inO, HB.stable]; simp [HB.born]) rfl fun w0 M E hro => ?_
      repeat' (first | refine Ctl.h ?_ | ((with_reducible intro hif); first | (focus (cases hif; done)) | (simp only [JH] at hif; try (exfalso; omega)) | (try (exfalso; omega))) | ((first | ((with_reducible apply J22 cPs_ok tab_ok); (· rfl)) | ((with_reducible apply J23 fol cPs_ok tab_ok); (· rfl)) | with_reducible apply J24); (· (simp only [push_cast, ↓JP, Nat.reduceAdd, Nat.reduceEqDiff, Nat.reduceLT, Nat.reduceMul, Nat.reduceLeDiff, reduceCtorEq, reduceIte, ↓JK, JE, cPs, sEqIns, sEqI64, sEqInt, inR, inN, q1, q2, q3]; rfl)); (try kernel_rfl); (try exact Vm.b22)) | fail)
      apply At.endsRet tab_ok (fn := Try.f59) (rs := [.tmp 4]) Anc.refl hro (Nat.le_of_ble_eq_true rfl) rfl
      · exact Vm.b18
      · exact Vm.b7
      · exact Vm.b8
      · rfl
      · exact Vm.b76
      · exact Vm.b10
      · exact fun β => rfl
      · exact Vm.b76
    · skip
      by_cases q4 : a.draws = b.draws
      case neg =>
        have e : eqP a b = false := by simp [eqP, q1, q2, q3, q4]
        rw [e]
        refine litOkM (fn := Try.f59) 13 45 0 rfl rfl rfl rfl rfl (by simp only [StableL, Stable, hp, i64S, prS, insS, sndsS, sndS, evtsS, evtS, prO, i64O, inO, HB.stable]; simp [HB.born]) rfl fun w0 M E hro => ?_
        repeat' (first | refine Ctl.h ?_ | ((with_reducible intro hif); first | (focus (cases hif; done)) | (simp only [JH] at hif; try (exfalso; omega)) | (try (exfalso; omega))) | ((first | ((with_reducible apply J22 cPs_ok tab_ok); (· rfl)) | ((with_reducible apply J23 fol cPs_ok tab_ok); (· rfl)) | with_reducible apply J24); (· (simp only [push_cast, ↓JP, Nat.reduceAdd, Nat.reduceEqDiff, Nat.reduceLT, Nat.reduceMul, Nat.reduceLeDiff, reduceCtorEq, reduceIte, ↓JK, JE, cPs, sEqIns, sEqI64, sEqInt, inR, inN, q1, q2, q3, q4]; rfl)); (try kernel_rfl); (try exact Vm.b22)) | fail)
        apply At.endsRet tab_ok (fn := Try.f59) (rs := [.tmp 4]) Anc.refl hro (Nat.le_of_ble_eq_true rfl) rfl
        · exact Vm.b18
        · exact Vm.b7
        · exact Vm.b8
        · rfl
        · exact Vm.b76
        · exact Vm.b10
        · exact fun β => rfl
        · exact Vm.b76
      by_cases q5 : a.seq = b.seq
      case neg =>
        have e : eqP a b = false := by simp [eqP, q1, q2, q3, q4, q5]
        rw [e]
        refine litOkM (fn := Try.f59) 13 45 0 rfl rfl rfl rfl rfl (by simp only [StableL, Stable, hp, i64S, prS, insS, sndsS, sndS, evtsS, evtS, prO, i64O, inO, HB.stable]; simp [HB.born]) rfl fun w0 M E hro => ?_
        repeat' (first | refine Ctl.h ?_ | ((with_reducible intro hif); first | (focus (cases hif; done)) | (simp only [JH] at hif; try (exfalso; omega)) | (try (exfalso; omega))) | ((first | ((with_reducible apply J22 cPs_ok tab_ok); (· rfl)) | ((with_reducible apply J23 fol cPs_ok tab_ok); (· rfl)) | with_reducible apply J24); (· exact Vm.b80); (try kernel_rfl); (try exact Vm.b22)) | fail)
        apply At.endsRet tab_ok (fn := Try.f59) (rs := [.tmp 4]) Anc.refl hro (Nat.le_of_ble_eq_true rfl) rfl
        · exact Vm.b18
        · exact Vm.b7
        · exact Vm.b8
        · rfl
        · exact Vm.b76
        · exact Vm.b10
        · exact fun β => rfl
        · exact Vm.b76
      have e : eqP a b = eqL a.ports b.ports := by simp [eqP, q1, q2, q3, q4, q5]
      rw [e]
      refine litOkM (fn := Try.f59) 13 45 0 rfl rfl rfl rfl rfl (by simp only [StableL, Stable, hp, i64S, prS, insS, sndsS, sndS, evtsS, evtS, prO, i64O, inO, HB.stable]; simp [HB.born]) rfl fun w0 M E hro => ?_
      repeat' (first | refine Ctl.h ?_ | ((with_reducible intro hif); first | (focus (cases hif; done)) | (simp only [JH] at hif; try (exfalso; omega)) | (try (exfalso; omega))) | ((first | ((with_reducible apply J22 cPs_ok tab_ok); (· rfl)) | ((with_reducible apply J23 fol cPs_ok tab_ok); (· rfl)) | with_reducible apply J24); (· exact Vm.b80); (try kernel_rfl); (try exact Vm.b22)) | fail)
      apply At.endsRet tab_ok (fn := Try.f59) (rs := [.tmp 4]) Anc.refl hro (Nat.le_of_ble_eq_true rfl) rfl
      · exact Vm.b18
      · exact Vm.b7
      · exact Vm.b8
      · rfl
      · exact Vm.b76
      · exact Vm.b10
      · exact fun β => rfl
      · exact Vm.b76
def sPSame : Spec := fun args h m => match args with
  | [.agg [v1, v2, v3, v4, v5, v6], .agg [v7, v8, v9, v10, v11, v12]] => match srcV h 5 (.tup []) v2, srcV h 1 (.tup []) v3, srcV h 1 (.tup []) v6, srcV h 5 (.tup []) v8, srcV h 1 (.tup []) v9, srcV h 1 (.tup []) v12 with
    | some (c2, n2, f2, r2), some (c3, n3, f3, r3), some (c6, n6, f6, r6), some (c8, n8, f8, r8), some (c9, n9, f9, r9), some (c12, n12, f12, r12) => bif isI .i64 v1 && isI .i64 v4 && isI .i64 v5 && isI .i64 v7 && isI .i64 v10 && isI .i64 v11 then some (c2 ∧ c3 ∧ c6 ∧ c8 ∧ c9 ∧ c12 ∧ (∀ q, q < n2 → isIns (f2 q) = true) ∧ (∀ q, q < n3 → isI .i64 (f3 q) = true) ∧ (∀ q, q < n6 → isI .i64 (f6 q) = true) ∧ (∀ q, q < n8 → isIns (f8 q) = true) ∧ (∀ q, q < n9 → isI .i64 (f9 q) = true) ∧ (∀ q, q < n12 → isI .i64 (f12 q) = true) ∧ (n2 ≤ 1000000) ∧ (n3 ≤ 1000000) ∧ (n6 ≤ 1000000), .bool (eqP ⟨(iOf v1), (ls insOf n2 f2), (ls iOf n3 f3), (iOf v4), (iOf v5), (ls iOf n6 f6)⟩ ⟨(iOf v7), (ls insOf n8 f8), (ls iOf n9 f9), (iOf v10), (iOf v11), (ls iOf n12 f12)⟩), r2 ++ r3 ++ r6 ++ r8 ++ r9 ++ r12, []) else none
    | _, _, _, _, _, _ => none
  | _ => none
theorem sPSame_ok : CallOk Try.prog 59 sPSame := by
  refine ⟨named_spec (by kernel_rfl), fun args h m c v rd wr hs hm hc w0 M β h' w R hrd hwr hst => ?_⟩
  unfold sPSame at hs
  split at hs
  · rename_i v1 v2 v3 v4 v5 v6 v7 v8 v9 v10 v11 v12
    split at hs
    · rename_i c2 n2 f2 r2 c3 n3 f3 r3 c6 n6 f6 r6 c8 n8 f8 r8 c9 n9 f9 r9 c12 n12 f12 r12 a2 a3 a6 a8 a9 a12
      obtain ⟨hb, hs⟩ := bif_some hs
      simp only [Option.some.injEq, Prod.mk.injEq] at hs
      obtain ⟨rfl, rfl, rfl, rfl⟩ := hs
      simp only [Bool.and_eq_true] at hb
      obtain ⟨⟨⟨⟨⟨b1, b4⟩, b5⟩, b7⟩, b10⟩, b11⟩ := hb
      obtain ⟨k2, k3, k6, k8, k9, k12, g2, g3, g6, g8, g9, g12, y1, y2, y3⟩ := hc
      obtain ⟨A2, p2, d2, e2, t2⟩ := reads_src R a2 k2 (fun i hi => hrd i (List.mem_append_left _ (List.mem_append_left _ (List.mem_append_left _ (List.mem_append_left _ (List.mem_append_left _ hi)))))) (by omega)
      obtain ⟨A3, p3, d3, e3, t3⟩ := reads_src R a3 k3 (fun i hi => hrd i (List.mem_append_left _ (List.mem_append_left _ (List.mem_append_left _ (List.mem_append_left _ (List.mem_append_right _ hi)))))) (by omega)
      obtain ⟨A6, p6, d6, e6, t6⟩ := reads_src R a6 k6 (fun i hi => hrd i (List.mem_append_left _ (List.mem_append_left _ (List.mem_append_left _ (List.mem_append_right _ hi))))) (by omega)
      obtain ⟨A8, p8, d8, e8, t8⟩ := reads_src R a8 k8 (fun i hi => hrd i (List.mem_append_left _ (List.mem_append_left _ (List.mem_append_right _ hi)))) (by omega)
      obtain ⟨A9, p9, d9, e9, t9⟩ := reads_src R a9 k9 (fun i hi => hrd i (List.mem_append_left _ (List.mem_append_right _ hi))) (by omega)
      obtain ⟨A12, p12, d12, e12, t12⟩ := reads_src R a12 k12 (fun i hi => hrd i (List.mem_append_right _ hi)) (by omega)
      refine callRo (views := [⟨5, (ls insOf n2 f2).length, prS (ls insOf n2 f2), A2, p2⟩, ⟨1, (ls iOf n3 f3).length, i64S (ls iOf n3 f3), A3, p3⟩, ⟨1, (ls iOf n6 f6).length, i64S (ls iOf n6 f6), A6, p6⟩, ⟨5, (ls insOf n8 f8).length, prS (ls insOf n8 f8), A8, p8⟩, ⟨1, (ls iOf n9 f9).length, i64S (ls iOf n9 f9), A9, p9⟩, ⟨1, (ls iOf n12 f12).length, i64S (ls iOf n12 f12), A12, p12⟩]) (psame_lit ⟨(iOf v1), (ls insOf n2 f2), (ls iOf n3 f3), (iOf v4), (iOf v5), (ls iOf n6 f6)⟩ ⟨(iOf v7), (ls insOf n8 f8), (ls iOf n9 f9), (iOf v10), (iOf v11), (ls iOf n12 f12)⟩ p2 p3 p6 p8 p9 p12 (by rw [ls_length]; exact y1) (by rw [ls_length]; exact y2) (by rw [ls_length]; exact y3)) ?_ R hm hwr ?_ ?_ ?_
      · intro x hx
        simp only [List.mem_cons, List.not_mem_nil, or_false] at hx
        rcases hx with rfl | rfl | rfl | rfl | rfl | rfl
        · exact viewIns t2 e2 g2
        · exact viewI64 t3 e3 g3
        · exact viewI64 t6 e6 g6
        · exact viewIns t8 e8 g8
        · exact viewI64 t9 e9 g9
        · exact viewI64 t12 e12 g12
      · intro β1 hv
        simp only [Vd, ls_length, and_true] at hv
        obtain ⟨z2, z3, z6, z8, z9, z12⟩ := hv
        simp only [denL, aggDen, intDen, natDen, boolDen, ls_length, z2, z3, z6, z8, z9, z12, d2, d3, d6, d8, d9, d12, isI_den b1, isI_den b4, isI_den b5, isI_den b7, isI_den b10, isI_den b11]
      · exact Vm.b76
      · exact Vm.b76
    · cases hs
  · cases hs
end Go.Proofs.Ytjliakjbdcplcaa.Vm
end

section
namespace Go.Proofs.Ytjliakjbdcplcaa.Vm
open Go.RowKit
set_option linter.unusedVariables false
set_option linter.unusedSimpArgs false
set_option maxRecDepth 100000
set_option maxHeartbeats 4000000
def dnR (id dr sq : Int) (n1 n2 n3 n4 u i c q j : Nat) : SV := .agg [.agg [.int .i64 id, .sl i i [] 5 0 n1 none, .sl c c [] 1 0 n2 none, .int .i64 dr, .int .i64 sq, .sl q q [] 1 0 n3 none], .sl j j [] 5 0 n4 none, .nat .i64 u]
structure DnI where
  id : Int
  dr : Int
  sq : Int
  n1 : Nat
  n2 : Nat
  n3 : Nat
  n4 : Nat
  u : Nat
  i : Nat
  c : Nat
  q : Nat
  j : Nat
def DnI.v (y : DnI) : SV := dnR y.id y.dr y.sq y.n1 y.n2 y.n3 y.n4 y.u y.i y.c y.q y.j
def DnI.at_ (y : DnI) (i c q j : Nat) : SV := dnR y.id y.dr y.sq y.n1 y.n2 y.n3 y.n4 y.u i c q j
def dnI : SV → Option DnI
  | .agg [.agg [.int .i64 id, .sl z1 i [] 5 0 n1 none, .sl z2 c [] 1 0 n2 none, .int .i64 dr, .int .i64 sq, .sl z3 q [] 1 0 n3 none], .sl z4 j [] 5 0 n4 none, .nat .i64 u] =>
    bif (Nat.beq z1 i && Nat.beq z2 c) && (Nat.beq z3 q && Nat.beq z4 j) then some ⟨id, dr, sq, n1, n2, n3, n4, u, i, c, q, j⟩ else none
  | _ => none
theorem dnI_val {v : SV} {y : DnI} (h : dnI v = some y) : v = y.v := by
  unfold dnI at h
  split at h
  · obtain ⟨hb, hs⟩ := bif_some h
    simp only [Option.some.injEq] at hs
    subst hs
    simp only [Bool.and_eq_true] at hb
    obtain ⟨⟨b1, b2⟩, b3, b4⟩ := hb
    have b1 := Nat.eq_of_beq_eq_true b1
    have b2 := Nat.eq_of_beq_eq_true b2
    have b3 := Nat.eq_of_beq_eq_true b3
    have b4 := Nat.eq_of_beq_eq_true b4
    subst b1 b2 b3 b4
    rfl
  · cases h
theorem dnR_ren {ρ : Nat → Nat} {y : DnI} {i c q j : Nat} (h1 : ρ i = y.i) (h2 : ρ c = y.c) (h3 : ρ q = y.q) (h4 : ρ j = y.j) : (y.at_ i c q j).ren ρ = y.v := by
  simp only [DnI.at_, DnI.v, dnR, SV.ren, renL, h1, h2, h3, h4]
theorem dnR_st {h : HM} {y : DnI} {i c q j : Nat} (h1 : (h i).born = true) (h2 : (h c).born = true) (h3 : (h q).born = true) (h4 : (h j).born = true) : Stable h (y.at_ i c q j) := by
  simp [DnI.at_, dnR, Stable, StableL, h1, h2, h3, h4]
def cloP (h : HM) (b : Nat) : Option (Nat × DnI × List Int × Prop) := match (h b).val with
  | some (.ptr d []) => match (h d).val with
    | some v => match dnI v with
      | some y => match (h y.q).val with
        | some (.arr n3 1 f) => bif Nat.beq n3 y.n3 && ((h y.i).born && ((h y.c).born && (h y.j).born)) then some (d, y, ls iOf n3 f, ∀ x, x < n3 → isI .i64 (f x) = true) else none
        | _ => none
      | none => none
    | none => none
  | _ => none
theorem cloP_val {h : HM} {b d : Nat} {y : DnI} {ps : List Int} {ok : Prop} (hp : cloP h b = some (d, y, ps, ok)) :
    (h b).val = some (.ptr d []) ∧ (h d).val = some y.v ∧ (h y.i).born = true ∧ (h y.c).born = true ∧ (h y.j).born = true ∧ ps.length = y.n3 ∧ ∃ f, (h y.q).val = some (.arr y.n3 1 f) ∧ ps = ls iOf y.n3 f ∧ (ok → ∀ x, x < y.n3 → isI .i64 (f x) = true) := by
  unfold cloP at hp
  split at hp
  · rename_i d' hb
    split at hp
    · rename_i v hd
      split at hp
      · rename_i y' hy
        split at hp
        · rename_i n3 f hq
          obtain ⟨hbb, hs⟩ := bif_some hp
          simp only [Option.some.injEq, Prod.mk.injEq] at hs
          obtain ⟨rfl, rfl, rfl, rfl⟩ := hs
          simp only [Bool.and_eq_true] at hbb
          obtain ⟨b1, b2, b3, b4⟩ := hbb
          have b1 := Nat.eq_of_beq_eq_true b1
          subst b1
          have := dnI_val hy
          subst this
          exact ⟨hb, hd, b2, b3, b4, ls_length .., f, hq, rfl, fun h => h⟩
        · cases hp
      · cases hp
    · cases hp
  · cases hp
section
variable {ρ : Nat → Nat} {h h' : HM} {b d : Nat} {y : DnI} {ps : List Int} {ok : Prop}
theorem bun_pt {x : Nat} (hp : (h b).val = some (.ptr d [])) (e : h' b = h b) (hx : ρ x = d) : Bun1 ρ (h' b) (.ro (.ptr x [])) :=
  Fit.ro (u := .ptr d []) (by rw [e]; exact hp) (fun β => by simp only [SV.ren, hx]) (fun n k f e => by cases e)
theorem bun_dn {i c q j : Nat} (hp : (h d).val = some y.v) (e : h' d = h d) (h1 : ρ i = y.i) (h2 : ρ c = y.c) (h3 : ρ q = y.q) (h4 : ρ j = y.j) : Bun1 ρ (h' d) (.ro (y.at_ i c q j)) :=
  Fit.ro (u := y.v) (by rw [e]; exact hp) (fun β => by rw [dnR_ren h1 h2 h3 h4]) (fun n k f e => by cases e)
theorem bun_po {q n : Nat} {f : Nat → SV} (hp : (h q).val = some (.arr n 1 f)) (hf : ∀ x, x < n → isI .i64 (f x) = true) (hps : ps = ls iOf n f) (e : h' q = h q) : Bun1 ρ (h' q) (.ro (.arr ps.length 1 (i64S ps))) := by
  subst hps
  rw [ls_length]
  refine Fit.ro (u := .arr n 1 f) (by rw [e]; exact hp) (fun β => ?_) (fun n k f e => by injection e with e1 e2 e3; subst e1 e2; exact ⟨_, rfl⟩)
  refine arrCl fun x hx => ?_
  rw [isI_cl (hf x hx)]
  unfold i64S
  rw [ls_getD hx]; rfl
end
theorem h1_lit (s : Snd) (ps : List Int) (y : DnI) (hy : y.n3 = ps.length) (h0 : 0 ≤ s.port) (h1 : s.port.toNat < ps.length) (hl : ps.length ≤ 1000000) : LitOk Try.prog 80 [sndS s, .ptr 1 []] [.gone, .ro (.ptr 2 []), .ro (y.at_ 3 4 5 6), .gone, .gone, .ro (.arr ps.length 1 (i64S ps)), .gone] (.bool (decide (ps.getD s.port.toNat 0 = 0))) [.gone, .gone, .gone, .gone, .gone, .gone, .gone] := by
  obtain ⟨id, dr, sq, n1, n2, n3, n4, u, i, c, q, j⟩ := y
  dsimp only at hy
  subst hy
  simp only [DnI.at_]
  refine litOkM (fn := Try.f80) 7 14 0 rfl rfl rfl rfl rfl (by simp only [StableL, Stable, hp, dnR, i64S, prS, insS, sndsS, sndS, evtsS, evtS, prO, i64O, inO, HB.stable]; simp [HB.born, dnR, sndS]) rfl fun w0 M E hro => ?_
  repeat' (first | refine Ctl.h ?_ | ((with_reducible intro hif); first | (focus (cases hif; done)) | (simp only [JH] at hif; try (exfalso; omega)) | (try (exfalso; omega))) | ((first | ((with_reducible apply J22 c1_ok tab_ok); (· rfl)) | ((with_reducible apply J23 fol c1_ok tab_ok); (· rfl)) | with_reducible apply J24); (· (simp only [push_cast, ↓JP, Nat.reduceAdd, Nat.reduceEqDiff, Nat.reduceLT, Nat.reduceMul, Nat.reduceLeDiff, reduceCtorEq, reduceIte, ↓JK, dnR, inR, inN, h0, h1, i64S]; rfl)); (try kernel_rfl); (try exact Vm.b22)) | fail)
  apply At.endsPick [0, 1, 2, 3, 4, 5, 6] tab_ok (fn := Try.f80) (rs := [.tmp 3]) Anc.refl hro (Nat.le_of_ble_eq_true rfl) rfl
  · exact Vm.b18
  · exact Vm.b24
  · rfl
  · rfl
  · rfl
  · exact Vm.b37
  · rfl
  · exact Vm.b77
  · exact Vm.b10
  · exact fun β => rfl
  · exact Vm.b77
def rH1 : Spec := fun args h m => match args with
  | [v, .ptr b []] => match cloP h b with
    | some (d, y, ps, ok) => bif isSnd v && nodupN [0, b, d, y.i, y.c, y.q, y.j] then some (ok ∧ 0 ≤ (sndOf v).port ∧ (sndOf v).port.toNat < ps.length ∧ ps.length ≤ 1000000, .bool (decide (ps.getD (sndOf v).port.toNat 0 = 0)), [b, d, y.i, y.c, y.q, y.j], []) else none
    | none => none
  | _ => none
theorem den_sndOf {v : SV} {β : Env} (h : isSnd v = true) : v.den β = (sndS (sndOf v)).den β := by
  have ha : v.isAgg = true := by cases v <;> first | rfl | (cases h; done)
  rw [den_agg ha, den_agg rfl, isSnd_cl h, isSnd_cl (isSnd_sndS _), sndOf_sndS]
theorem rH1_ok : CallOk Try.prog 80 rH1 := by
  refine ⟨named_spec (by kernel_rfl), fun args h m c v rd wr hs hm hc w0 M β h' w R hrd hwr hst => ?_⟩
  unfold rH1 at hs
  split at hs
  · rename_i v0 b
    split at hs
    · rename_i d y ps ok hcp
      obtain ⟨hb, hs⟩ := bif_some hs
      simp only [Option.some.injEq, Prod.mk.injEq] at hs
      obtain ⟨rfl, rfl, rfl, rfl⟩ := hs
      rw [Bool.and_eq_true] at hb
      obtain ⟨b1, hnd⟩ := hb
      obtain ⟨g1, g2, g3, g4, g5, g6, f, g7, g8, g9⟩ := cloP_val hcp
      obtain ⟨k1, k2, k3, k4⟩ := hc
      have ea : denL β [v0, .ptr b []] = denL β [sndS (sndOf v0), .ptr b []] := by simp only [denL]; rw [den_sndOf b1]
      rw [ea]
      exact bun_ok (h := h) (m := m) [0, b, d, y.i, y.c, y.q, y.j] (h1_lit (sndOf v0) ps y g6.symm k2 k3 k4) R rfl (by simp) rfl rfl hnd
        ⟨Fit.gone (by rw [R.nil0]; rfl), bun_pt g1 (hrd b (by simp)) rfl, bun_dn g2 (hrd d (by simp)) rfl rfl rfl rfl, Fit.gone (by rw [hrd y.i (by simp)]; exact g3), Fit.gone (by rw [hrd y.c (by simp)]; exact g4), bun_po g7 (g9 k1) g8 (hrd y.q (by simp)), Fit.gone (by rw [hrd y.j (by simp)]; exact g5), trivial⟩ hm
        (fun p hp => by cases hp) (by simp) rfl
        ⟨trivial, rfl, dnR_st rfl rfl rfl rfl, trivial, trivial, (fun q => i64S_stable q), trivial, trivial⟩ ⟨sndS_stable _, rfl, trivial⟩
        ⟨trivial, rfl, dnR_st rfl rfl rfl rfl, trivial, trivial, (fun q => i64S_stable q), trivial, trivial⟩ trivial rfl rfl rfl
    · cases hs
  · cases hs
theorem evm_sn (i : Snd) (a : Bool → SV → Option (Prop × SV)) (b : SV → Option (Prop × SV)) (c : Unit → Option (Prop × SV)) : ev.match_1 (fun _ => Option (Prop × SV)) (some (sndS i)) a b c = b (sndS i) := rfl
def gonB (ps : List Int) (s : Snd) : Bool := decide (ps.getD s.port.toNat 0 = 0)
def cH1 : FuncId → Option Spec := look2 [(80, rH1)]
theorem cH1_ok : ∀ f S, cH1 f = some S → CallOk Try.prog f S := allOk_spec ⟨rH1_ok, trivial⟩
theorem idxS_lit (l : List Snd) (ps : List Int) (y : DnI) (hy : y.n3 = ps.length) (hS : ∀ s ∈ l, 0 ≤ s.port ∧ s.port.toNat < ps.length) (hl : ps.length ≤ 1000000) (hll : l.length ≤ 1000000) : LitOk Try.prog 56 [.sl 1 1 [] 3 0 l.length none, .fn 80 [.ptr 2 []]] [.gone, .ro (.arr l.length 3 (sndsS l)), .ro (.ptr 3 []), .ro (y.at_ 4 5 6 7), .gone, .gone, .ro (.arr ps.length 1 (i64S ps)), .gone] (.int .i64 (findI (gonB ps) l)) [.gone, .gone, .gone, .gone, .gone, .gone, .gone, .gone] := by
  obtain ⟨id, dr, sq, n1, n2, n3, n4, u, i, c, q, j⟩ := y
  dsimp only at hy
  subst hy
  simp only [DnI.at_]
  refine litOkM (fn := Try.f56) 8 19 0 rfl rfl rfl rfl rfl (by simp only [StableL, Stable, hp, dnR, i64S, prS, insS, sndsS, sndS, evtsS, evtS, prO, i64O, inO, HB.stable]; simp [HB.born, dnR]) rfl fun w0 M E hro => ?_
  repeat' (first | refine Ctl.h ?_ | ((with_reducible intro hif); first | (focus (cases hif; done)) | (simp only [JH] at hif; try (exfalso; omega)) | (try (exfalso; omega))) | ((first | ((with_reducible apply J22 cH1_ok tab_ok); (· rfl)) | ((with_reducible apply J23 fol cH1_ok tab_ok); (· rfl)) | with_reducible apply J24); (· exact Vm.b82); (try kernel_rfl); (try exact Vm.b81)) | fail)
  refine WF.loopAt (fun k => k ≤ l.length ∧ ∀ q, q < k → gonB ps (l.getD q ⟨0, 0, 0⟩) = false) (fun k => [(0, .sl 1 1 [] 3 0 l.length none), (1, .fn 80 [.ptr 2 []]), (7, .nat .i64 l.length), (8, .nat .i64 k)]) (fun k => [.gone, .ro (.arr l.length 3 (sndsS l)), .ro (.ptr 3 []), .ro (dnR id dr sq n1 n2 ps.length n4 u 4 5 6 7), .gone, .gone, .ro (.arr ps.length 1 (i64S ps)), .gone]) (fun k => l.length - k) 0 ⟨Nat.zero_le _, fun q hq => absurd hq (Nat.not_lt_zero q)⟩ ?_ ?_ rfl ?_ ?_ rfl ?_
  · exact Vm.b11
  · exact Vm.b8
  · exact Vm.b77
  · exact Vm.b77
  rintro k ⟨hk, hq⟩
  by_cases hkl : k < l.length
  · have hm : l.getD k ⟨0, 0, 0⟩ ∈ l := by rw [List.getD_eq_getElem?_getD, List.getElem?_eq_getElem hkl]; exact List.getElem_mem hkl
    obtain ⟨s0, s1⟩ := hS _ hm
    cases hn : gonB ps (l.getD k ⟨0, 0, 0⟩)
    · have hn' := of_decide_eq_false hn
      repeat' (first | refine Ctl.h ?_ | ((with_reducible intro hif); first | (focus (cases hif; done)) | (simp only [JH] at hif; try (exfalso; omega)) | (try (exfalso; omega))) | ((first | ((with_reducible apply J22 cH1_ok tab_ok); (· rfl)) | ((with_reducible apply J23 fol cH1_ok tab_ok); (· rfl)) | with_reducible apply J24); (· exact Vm.b83); (try kernel_rfl); (try exact Vm.b81)) | fail)
      refine At.next (k + 1) ?_ ?_ ?_ rfl ?_ ?_ rfl
      · refine ⟨⟨hkl, fun q hq' => ?_⟩, by omega⟩; by_cases e : q = k; (rw [e]; exact hn); exact hq q (by omega)
      · exact Vm.b11
      · exact Vm.b8
      · exact Vm.b77
      · exact Vm.b77
    · have hf := find_at hkl hq hn
      have hn' := of_decide_eq_true hn
      repeat' (first | refine Ctl.h ?_ | ((with_reducible intro hif); first | (focus (cases hif; done)) | (simp only [JH] at hif; try (exfalso; omega)) | (try (exfalso; omega))) | ((first | ((with_reducible apply J22 cH1_ok tab_ok); (· rfl)) | ((with_reducible apply J23 fol cH1_ok tab_ok); (· rfl)) | with_reducible apply J24); (· exact Vm.b83); (try kernel_rfl); (try exact Vm.b81)) | fail)
      apply At.endsPick [0, 1, 2, 3, 4, 5, 6, 7] tab_ok (fn := Try.f56) (rs := [.tmp 4]) Anc.refl hro (Nat.le_of_ble_eq_true rfl) rfl
      · exact Vm.b18
      · exact Vm.b24
      · rfl
      · rfl
      · rfl
      · exact Vm.b37
      · rfl
      · exact Vm.b77
      · exact Vm.b10
      · rw [hf]; exact fun β => rfl
      · exact Vm.b77
  · obtain rfl : k = l.length := by omega
    have hf := find_no hq
    repeat' (first | refine Ctl.h ?_ | ((with_reducible intro hif); first | (focus (cases hif; done)) | (simp only [JH] at hif; try (exfalso; omega)) | (try (exfalso; omega))) | ((first | ((with_reducible apply J22 cH1_ok tab_ok); (· rfl)) | ((with_reducible apply J23 fol cH1_ok tab_ok); (· rfl)) | with_reducible apply J24); (· exact Vm.b82); (try kernel_rfl); (try exact Vm.b81)) | fail)
    apply At.endsPick [0, 1, 2, 3, 4, 5, 6, 7] tab_ok (fn := Try.f56) (rs := [.tmp 4]) Anc.refl hro (Nat.le_of_ble_eq_true rfl) rfl
    · exact Vm.b18
    · exact Vm.b24
    · rfl
    · rfl
    · rfl
    · exact Vm.b37
    · rfl
    · exact Vm.b77
    · exact Vm.b10
    · rw [hf]; exact fun β => rfl
    · exact Vm.b77
def rIx : Spec := fun args h m => match args with
  | [.sl z s [] 3 0 n none, .fn f0 [.ptr b []]] => match (h s).val with
    | some (.arr n' 3 f) => match cloP h b with
      | some (d, y, ps, ok) => bif (Nat.beq z s && Nat.beq n n') && (Nat.beq f0 80 && nodupN [0, s, b, d, y.i, y.c, y.q, y.j]) then
          some (ok ∧ (∀ q, q < n → isSnd (f q) = true) ∧ (∀ s ∈ ls sndOf n f, 0 ≤ s.port ∧ s.port.toNat < ps.length) ∧ ps.length ≤ 1000000 ∧ n ≤ 1000000, .int .i64 (findI (gonB ps) (ls sndOf n f)), [s, b, d, y.i, y.c, y.q, y.j], []) else none
      | none => none
    | _ => none
  | _ => none
theorem rIx_ok : CallOk Try.prog 56 rIx := by
  refine ⟨named_spec (by kernel_rfl), fun args h m c v rd wr hs hm hc w0 M β h' w R hrd hwr hst => ?_⟩
  unfold rIx at hs
  split at hs
  · rename_i z s n f0 b
    split at hs
    · rename_i n' f hsv
      split at hs
      · rename_i d y ps ok hcp
        obtain ⟨hb, hs⟩ := bif_some hs
        simp only [Option.some.injEq, Prod.mk.injEq] at hs
        obtain ⟨rfl, rfl, rfl, rfl⟩ := hs
        simp only [Bool.and_eq_true] at hb
        obtain ⟨⟨b1, b2⟩, b3, hnd⟩ := hb
        have b1 := Nat.eq_of_beq_eq_true b1
        have b2 := Nat.eq_of_beq_eq_true b2
        have b3 := Nat.eq_of_beq_eq_true b3
        subst b1 b2 b3
        obtain ⟨g1, g2, g3, g4, g5, g6, f2, g7, g8, g9⟩ := cloP_val hcp
        obtain ⟨k1, k2, k3, k4, k5⟩ := hc
        have el : (ls sndOf n f).length = n := ls_length ..
        have ea : denL β [SV.sl z z [] 3 0 n none, .fn 80 [.ptr b []]] = denL β [SV.sl z z [] 3 0 (ls sndOf n f).length none, .fn 80 [.ptr b []]] := by rw [el]
        rw [ea]
        exact bun_ok (h := h) (m := m) [0, z, b, d, y.i, y.c, y.q, y.j] (idxS_lit (ls sndOf n f) ps y g6.symm k3 k4 (by rw [el]; exact k5)) R rfl (by simp) rfl rfl hnd
          ⟨Fit.gone (by rw [R.nil0]; rfl), Fit.ro (u := .arr n 3 f) (by rw [hrd z (by simp)]; exact hsv) (fun β => by
            simp only [SV.ren, sndsS_ren, el]
            exact arrCl fun q hq => by rw [isSnd_cl (k2 q hq)]; unfold sndsS; rw [ls_getD hq, isSnd_cl (isSnd_sndS _), sndOf_sndS]) (fun n k f e => by simp only [SV.ren, el] at e; injection e with e1 e2 e3; subst e1 e2; exact ⟨_, rfl⟩), bun_pt g1 (hrd b (by simp)) rfl, bun_dn g2 (hrd d (by simp)) rfl rfl rfl rfl, Fit.gone (by rw [hrd y.i (by simp)]; exact g3), Fit.gone (by rw [hrd y.c (by simp)]; exact g4), bun_po g7 (g9 k1) g8 (hrd y.q (by simp)), Fit.gone (by rw [hrd y.j (by simp)]; exact g5), trivial⟩ hm
          (fun p hp => by cases hp) (by simp) rfl
          ⟨trivial, (fun q => sndsS_stable q), rfl, dnR_st rfl rfl rfl rfl, trivial, trivial, (fun q => i64S_stable q), trivial, trivial⟩ ⟨⟨rfl, rfl⟩, ⟨rfl, trivial⟩, trivial⟩
          ⟨trivial, (fun q => sndsS_stable q), rfl, dnR_st rfl rfl rfl rfl, trivial, trivial, (fun q => i64S_stable q), trivial, trivial⟩ trivial rfl rfl rfl
      · cases hs
    · cases hs
  · cases hs
def cIx : FuncId → Option Spec := look2 [(56, rIx)]
theorem cIx_ok : ∀ f S, cIx f = some S → CallOk Try.prog f S := allOk_spec ⟨rIx_ok, trivial⟩
theorem conS_lit (l : List Snd) (ps : List Int) (y : DnI) (hy : y.n3 = ps.length) (hS : ∀ s ∈ l, 0 ≤ s.port ∧ s.port.toNat < ps.length) (hl : ps.length ≤ 1000000) (hll : l.length ≤ 1000000) : LitOk Try.prog 30 [.sl 1 1 [] 3 0 l.length none, .fn 80 [.ptr 2 []]] [.gone, .ro (.arr l.length 3 (sndsS l)), .ro (.ptr 3 []), .ro (y.at_ 4 5 6 7), .gone, .gone, .ro (.arr ps.length 1 (i64S ps)), .gone] (.bool (l.any (gonB ps))) [.gone, .gone, .gone, .gone, .gone, .gone, .gone, .gone] := by
  obtain ⟨id, dr, sq, n1, n2, n3, n4, u, i, c, q, j⟩ := y
  dsimp only at hy
  subst hy
  simp only [DnI.at_]
  have e := find_any (gonB ps) l
  refine litOkM (fn := Try.f30) 8 9 0 rfl rfl rfl rfl rfl (by simp only [StableL, Stable, hp, dnR, i64S, prS, insS, sndsS, sndS, evtsS, evtS, prO, i64O, inO, HB.stable]; simp [HB.born, dnR]) rfl fun w0 M E hro => ?_
  repeat' (first | refine Ctl.h ?_ | ((with_reducible intro hif); first | (focus (cases hif; done)) | (simp only [JH] at hif; try (exfalso; omega)) | (try (exfalso; omega))) | ((first | ((with_reducible apply J22 cIx_ok tab_ok); (· rfl)) | ((with_reducible apply J23 fol cIx_ok tab_ok); (· rfl)) | with_reducible apply J24); (· (simp only [push_cast, ↓JP, Nat.reduceAdd, Nat.reduceEqDiff, Nat.reduceLT, Nat.reduceMul, Nat.reduceLeDiff, reduceCtorEq, reduceIte, ↓JK, DnI.at_, dnR, cIx, rIx, cloP, dnI, nodupN, memN, JE, isI_int, ls_sndsS, ls_sndsS', inR, inN]; rfl)); (try kernel_rfl); (try (focus (first | exact True.intro | ((try simp only [JS, implies_true, forall_const, shaped, shapedL, kndOf, ls_sndsS, ls_sndsS', ls_i64S', ls_i64S, ls_length]); (repeat' (first | exact True.intro | assumption | omega | apply And.intro | rfl | decide | intro _)); done) | ((try simp only [JS, implies_true, forall_const, shaped, shapedL, kndOf, inR, inN]); (repeat' (first | assumption | exact True.intro | omega | apply And.intro)); done))))) | fail)
  apply At.endsPick [0, 1, 2, 3, 4, 5, 6, 7] tab_ok (fn := Try.f30) (rs := [.tmp 4]) Anc.refl hro (Nat.le_of_ble_eq_true rfl) rfl
  · exact Vm.b18
  · exact Vm.b24
  · rfl
  · rfl
  · rfl
  · exact Vm.b37
  · rfl
  · exact Vm.b77
  · exact Vm.b10
  · rw [← e]; exact fun β => rfl
  · exact Vm.b77
def rCF : Spec := fun args h m => match args with
  | [.sl z s [] 3 0 n none, .fn f0 [.ptr b []]] => match (h s).val with
    | some (.arr n' 3 f) => match cloP h b with
      | some (d, y, ps, ok) => bif (Nat.beq z s && Nat.beq n n') && (Nat.beq f0 80 && nodupN [0, s, b, d, y.i, y.c, y.q, y.j]) then
          some (ok ∧ (∀ q, q < n → isSnd (f q) = true) ∧ (∀ s ∈ ls sndOf n f, 0 ≤ s.port ∧ s.port.toNat < ps.length) ∧ ps.length ≤ 1000000 ∧ n ≤ 1000000, .bool ((ls sndOf n f).any (gonB ps)), [s, b, d, y.i, y.c, y.q, y.j], []) else none
      | none => none
    | _ => none
  | _ => none
theorem rCF_ok : CallOk Try.prog 30 rCF := by
  refine ⟨named_spec (by kernel_rfl), fun args h m c v rd wr hs hm hc w0 M β h' w R hrd hwr hst => ?_⟩
  unfold rCF at hs
  split at hs
  · rename_i z s n f0 b
    split at hs
    · rename_i n' f hsv
      split at hs
      · rename_i d y ps ok hcp
        obtain ⟨hb, hs⟩ := bif_some hs
        simp only [Option.some.injEq, Prod.mk.injEq] at hs
        obtain ⟨rfl, rfl, rfl, rfl⟩ := hs
        simp only [Bool.and_eq_true] at hb
        obtain ⟨⟨b1, b2⟩, b3, hnd⟩ := hb
        have b1 := Nat.eq_of_beq_eq_true b1
        have b2 := Nat.eq_of_beq_eq_true b2
        have b3 := Nat.eq_of_beq_eq_true b3
        subst b1 b2 b3
        obtain ⟨g1, g2, g3, g4, g5, g6, f2, g7, g8, g9⟩ := cloP_val hcp
        obtain ⟨k1, k2, k3, k4, k5⟩ := hc
        have el : (ls sndOf n f).length = n := ls_length ..
        have ea : denL β [SV.sl z z [] 3 0 n none, .fn 80 [.ptr b []]] = denL β [SV.sl z z [] 3 0 (ls sndOf n f).length none, .fn 80 [.ptr b []]] := by rw [el]
        rw [ea]
        exact bun_ok (h := h) (m := m) [0, z, b, d, y.i, y.c, y.q, y.j] (conS_lit (ls sndOf n f) ps y g6.symm k3 k4 (by rw [el]; exact k5)) R rfl (by simp) rfl rfl hnd
          ⟨Fit.gone (by rw [R.nil0]; rfl), Fit.ro (u := .arr n 3 f) (by rw [hrd z (by simp)]; exact hsv) (fun β => by
            simp only [SV.ren, sndsS_ren, el]
            exact arrCl fun q hq => by rw [isSnd_cl (k2 q hq)]; unfold sndsS; rw [ls_getD hq, isSnd_cl (isSnd_sndS _), sndOf_sndS]) (fun n k f e => by simp only [SV.ren, el] at e; injection e with e1 e2 e3; subst e1 e2; exact ⟨_, rfl⟩), bun_pt g1 (hrd b (by simp)) rfl, bun_dn g2 (hrd d (by simp)) rfl rfl rfl rfl, Fit.gone (by rw [hrd y.i (by simp)]; exact g3), Fit.gone (by rw [hrd y.c (by simp)]; exact g4), bun_po g7 (g9 k1) g8 (hrd y.q (by simp)), Fit.gone (by rw [hrd y.j (by simp)]; exact g5), trivial⟩ hm
          (fun p hp => by cases hp) (by simp) rfl
          ⟨trivial, (fun q => sndsS_stable q), rfl, dnR_st rfl rfl rfl rfl, trivial, trivial, (fun q => i64S_stable q), trivial, trivial⟩ ⟨⟨rfl, rfl⟩, ⟨rfl, trivial⟩, trivial⟩
          ⟨trivial, (fun q => sndsS_stable q), rfl, dnR_st rfl rfl rfl rfl, trivial, trivial, (fun q => i64S_stable q), trivial, trivial⟩ trivial rfl rfl rfl
      · cases hs
    · cases hs
  · cases hs
theorem h2_lit (y : DnI) (h0 : -9000000000000000000 ≤ y.sq) (h1 : y.sq ≤ 9000000000000000000) : LitOk Try.prog 81 [.ptr 1 []] [.gone, .ro (.ptr 2 []), .own 87 (y.at_ 3 4 5 6) true, .gone, .gone, .gone, .gone] (.int .i64 y.sq) [.gone, .gone, .own 87 (({ y with sq := y.sq + 1 } : DnI).at_ 3 4 5 6) true, .gone, .gone, .gone, .gone] := by
  obtain ⟨id, dr, sq, n1, n2, n3, n4, u, i, c, q, j⟩ := y
  dsimp only at h0 h1
  simp only [DnI.at_]
  have e : sq + 1 - 1 = sq := by omega
  refine litOkM (fn := Try.f81) 7 17 0 rfl rfl rfl rfl rfl (by simp only [StableL, Stable, hp, dnR, i64S, prS, insS, sndsS, sndS, evtsS, evtS, prO, i64O, inO, HB.stable]; simp [HB.born, dnR]) rfl fun w0 M E hro => ?_
  repeat' (first | refine Ctl.h ?_ | ((with_reducible intro hif); first | (focus (cases hif; done)) | (simp only [JH] at hif; try (exfalso; omega)) | (try (exfalso; omega))) | ((first | ((with_reducible apply J22 cIx_ok tab_ok); (· rfl)) | ((with_reducible apply J23 fol cIx_ok tab_ok); (· rfl)) | with_reducible apply J24); (· (simp only [push_cast, ↓JP, Nat.reduceAdd, Nat.reduceEqDiff, Nat.reduceLT, Nat.reduceMul, Nat.reduceLeDiff, reduceCtorEq, reduceIte, ↓JK, dnR, inR, inN]; rfl)); (try kernel_rfl); (try exact Vm.b22)) | fail)
  apply At.endsPick [0, 1, 2, 3, 4, 5, 6] tab_ok (fn := Try.f81) (rs := [.tmp 1]) Anc.refl hro (Nat.le_of_ble_eq_true rfl) rfl
  · exact Vm.b18
  · exact Vm.b24
  · rfl
  · rfl
  · rfl
  · exact Vm.b37
  · rfl
  · exact Vm.b77
  · exact Vm.b10
  · (intro β; show Value.int .i64 (sq + 1 - 1) = Value.int .i64 sq; rw [e])
  · exact Vm.b77
def rH2 : Spec := fun args h m => match args with
  | [.ptr b []] => match (h b).val with
    | some (.ptr d []) => match h d with
      | .own t v true => match dnI v with
        | some y => bif (Nat.beq t 87 && nodupN [0, b, d, y.i, y.c, y.q, y.j]) && (((h y.i).born && (h y.c).born) && ((h y.q).born && (h y.j).born)) then
            some (-9000000000000000000 ≤ y.sq ∧ y.sq ≤ 9000000000000000000, .int .i64 y.sq, [b, d, y.i, y.c, y.q, y.j], [(d, .own 87 ({ y with sq := y.sq + 1 } : DnI).v true)]) else none
        | none => none
      | _ => none
    | _ => none
  | _ => none
theorem rH2_ok : CallOk Try.prog 81 rH2 := by
  refine ⟨named_spec (by kernel_rfl), fun args h m c v rd wr hs hm hc w0 M β h' w R hrd hwr hst => ?_⟩
  unfold rH2 at hs
  split at hs
  · rename_i b
    split at hs
    · rename_i d hbv
      split at hs
      · rename_i t v0 hd
        split at hs
        · rename_i y hy
          obtain ⟨hb, hs⟩ := bif_some hs
          simp only [Option.some.injEq, Prod.mk.injEq] at hs
          obtain ⟨rfl, rfl, rfl, rfl⟩ := hs
          simp only [Bool.and_eq_true] at hb
          obtain ⟨⟨b1, hnd⟩, ⟨b2, b3⟩, b4, b5⟩ := hb
          have b1 := Nat.eq_of_beq_eq_true b1
          subst b1
          have hv := dnI_val hy
          subst hv
          obtain ⟨k1, k2⟩ := hc
          exact bun_ok (h := h) (m := m) [0, b, d, y.i, y.c, y.q, y.j] (h2_lit y k1 k2) R rfl (by simp) rfl rfl hnd
            ⟨Fit.gone (by rw [R.nil0]; rfl), bun_pt hbv (hrd b (by simp)) rfl, (by
              show Less (h' d) (.own 87 ((y.at_ 3 4 5 6).ren _) true)
              rw [hrd d (by simp), hd, dnR_ren (y := y) rfl rfl rfl rfl]; exact .same _), Fit.gone (by rw [hrd y.i (by simp)]; exact b2), Fit.gone (by rw [hrd y.c (by simp)]; exact b3), Fit.gone (by rw [hrd y.q (by simp)]; exact b4), Fit.gone (by rw [hrd y.j (by simp)]; exact b5), trivial⟩ hm
            (fun p hp => by cases hp) (by simp) rfl
            ⟨trivial, rfl, dnR_st rfl rfl rfl rfl, trivial, trivial, trivial, trivial, trivial⟩ ⟨rfl, trivial⟩
            ⟨trivial, rfl, dnR_st rfl rfl rfl rfl, trivial, trivial, trivial, trivial, trivial⟩ trivial rfl rfl (by
              show [(d, HB.own 87 ((({ y with sq := y.sq + 1 } : DnI).at_ 3 4 5 6).ren _) true)] = _
              rw [dnR_ren (y := ({ y with sq := y.sq + 1 } : DnI)) rfl rfl rfl rfl])
        · cases hs
      · cases hs
    · cases hs
  · cases hs
end Go.Proofs.Ytjliakjbdcplcaa.Vm
end
end

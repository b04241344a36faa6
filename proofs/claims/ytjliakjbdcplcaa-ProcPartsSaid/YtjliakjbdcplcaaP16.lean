import Derived.Test.YtjliakjbdcplcaaP6
import Derived.Test.YtjliakjbdcplcaaP7
import Derived.Test.YtjliakjbdcplcaaP8
import Derived.Test.YtjliakjbdcplcaaP9
import Derived.Test.YtjliakjbdcplcaaP11
import Derived.Test.YtjliakjbdcplcaaP12
import Derived.Test.YtjliakjbdcplcaaP14
import Derived.Test.YtjliakjbdcplcaaP15
section
namespace Go.Proofs.Ytjliakjbdcplcaa.Vm
theorem b120 {P : Prop} (h : P := by (repeat' (first | exact trivial | exact rfl | assumption | apply Stable.ite | apply And.intro | intro _ | (simp only [Stable, StableL, esS, esA, u8S, pcS, i64S, prS, insS, sndsS, sndS, evtsS, evtS, prO, i64O, inO, evO_, HB.stable]; done)))) : P := h
theorem b121 {P : Prop} (h : P := by (repeat' (first | exact trivial | exact .inl rfl | exact .inr (.same _) | exact .inr .loose | exact .inr (.arr (by assumption)) | apply And.intro | (rw [hS2]; exact .inr (less_appE _ _ hn rfl (fun β => rfl))) | (rw [hS2]; exact .inr (less_oneE _ rfl (fun β => rfl)))))) : P := h
theorem b122 {P : Prop} (h : P := by (repeat' (first | exact trivial | exact ⟨_, rfl, fun β => rfl⟩ | apply And.intro | exact ⟨_, rfl, hden⟩))) : P := h
theorem b123 {P : Prop} (h : P := by (repeat' (first | exact trivial | exact rfl | assumption | apply Stable.ite | apply And.intro | intro _ | (simp only [Stable, StableL]; done)))) : P := h
theorem b124 {P : Prop} (h : P := by (first | exact True.intro | ((try simp only [JS, implies_true, forall_const, shaped, shapedL, kndOf]); (repeat' (first | exact True.intro | omega | assumption | exact ⟨fun q _ => rfl, hx, hcap⟩ | exact ⟨rfl, fun q _ => rfl, hx, hcap⟩ | apply And.intro | rfl | decide | intro _)); done) | ((try simp only [JS, implies_true, forall_const, shaped, shapedL, kndOf]); (repeat' (first | assumption | exact True.intro | omega | apply And.intro)); done))) : P := h
theorem b125 {P : Prop} (h : P := by (simp only [push_cast, ↓JP, Nat.reduceAdd, Nat.reduceEqDiff, Nat.reduceLT, Nat.reduceMul, Nat.reduceLeDiff, reduceCtorEq, reduceIte, ↓JK, cM28N, Nat.sub_zero, hm]; rfl)) : P := h
theorem b126 {P : Prop} (h : P := by (simp only [push_cast, ↓JP, Nat.reduceAdd, Nat.reduceEqDiff, Nat.reduceLT, Nat.reduceMul, Nat.reduceLeDiff, reduceCtorEq, reduceIte, ↓JK, cM28N, Nat.sub_zero, hm, hkl, he, evtsS, ↓evtS_sz, ↓evtS_ag, ↓evtS_pl, nav_evt, nav_evt0, nav_evt1, nav_evt2, evm_ev, hk0, hkm, hte]; rfl)) : P := h
end Go.Proofs.Ytjliakjbdcplcaa.Vm
end
section
namespace Go.Proofs.Ytjliakjbdcplcaa.Vm
open Go.RowKit
attribute [local push_cast] runR opG gtmp gval gus opX tmpsOf tm tmO tmP restr look look2 tab tys zs ets eqB eqBL allB numOf ieq Int.cast_ofNat_Int Int.ofNat_zero beq_true beq_false frameOf ev evL ofV opV loadV noW pushF wrsL setH allBorn allGone HB.born HB.isGone HB.val SV.plain dstOk hp nav fitsT SV.size sizeL SV.isAgg TK.size TK.agg bin binE binN binI arN arI cmpN cmpI keq kn narrow callV storeV setp fillV buildV buildSliceV makeV sliceV appendV appendFV slice3V copyV List.isEmpty_nil srcV evO asN ite_t ite_f ite_bool ite_int ite_nat maxV v_beq v_ble v_blt cond_true cond_false List.getElem?_cons_zero List.getElem?_cons_succ List.getD_cons_zero List.getD_cons_succ List.getD_nil List.length_cons List.length_nil List.take_succ_cons List.take_zero List.set_cons_zero List.set_cons_succ List.cons_append List.nil_append List.append_assoc List.replicate_succ List.replicate_zero Nat.zero_add Nat.add_zero decide_true decide_false Bool.true_and Bool.and_true Bool.false_and Bool.and_false Bool.true_or Bool.or_true Bool.false_or Bool.or_false beq_self_eq_true Bool.or_self Nat.lt_irrefl Nat.not_lt_zero Nat.le_refl Option.getD_some Option.getD_none BEq.rfl Bool.not_true Bool.not_false Bool.cond_true_left Bool.cond_false_right prS sndsS i64S nav_ins nav_ins0 nav_ins1 nav_ins2 nav_ins3 nav_ins4 nav_snd nav_snd0 nav_snd1 nav_snd2 isIns_insS insOf_insS isSnd_sndS sndOf_sndS isI_int isI_nat iOf JM JE JB sMd18N sMd18S sMd14 inR inN u8S esS esA
set_option linter.unusedVariables false
set_option linter.unusedSimpArgs false
set_option maxRecDepth 100000
set_option maxHeartbeats 4000000
theorem less_oneE {t : Nat} {σ : Nat → Nat} (x : Evt) {g : Nat → SV} {xv z : SV} (hg : g = fun q => [xv].getD q z) (hx : ∀ β, xv.cl β = x.cells) :
    Less (.own t (.arr 1 5 g) false) ((HB.own t (.arr 1 5 (evtsS [x])) false).ren σ) := by
  have e : (HB.own t (.arr 1 5 (evtsS [x])) false).ren σ = .own t (.arr 1 5 (evtsS [x])) false := by
    simp only [HB.ren, SV.ren]; rw [evtsS_ren]
  rw [e]
  refine .val (fun β => arrCl fun q hq => ?_) (fun n1 k1 f1 e => by injection e with e1 e2 e3; subst e1 e2; exact ⟨_, rfl⟩) (fun n1 k1 f1 e => by injection e with e1 e2 e3; subst e1 e2; exact ⟨_, rfl⟩)
  subst hg
  obtain rfl : q = 0 := by omega
  show xv.cl β = _
  rw [hx, show evtsS [x] 0 = evtS x from rfl, isEvt_cl (isEvt_evtS _), evtOf_evtS]
theorem less_appI {t n : Nat} {σ : Nat → Nat} (S : List Int) (x : Int) (hn : S.length = n) {g : Nat → SV} {xv z : SV} (hg : g = fun q => SV.ite (decide (q < n)) (i64S S q) ([xv].getD (q - n) z)) (hx : ∀ β, xv.cl β = [.int .i64 x]) :
    Less (.own t (.arr (n + 1) 1 g) false) ((HB.own t (.arr (n + 1) 1 (i64S (S ++ [x]))) false).ren σ) := by
  have e : (HB.own t (.arr (n + 1) 1 (i64S (S ++ [x]))) false).ren σ = .own t (.arr (n + 1) 1 (i64S (S ++ [x]))) false := rfl
  rw [e]
  refine .val (fun β => arrCl fun q hq => ?_) (fun n1 k1 f1 e => by injection e with e1 e2 e3; subst e1 e2; exact ⟨_, rfl⟩) (fun n1 k1 f1 e => by injection e with e1 e2 e3; subst e1 e2; exact ⟨_, rfl⟩)
  subst hg hn
  dsimp only
  rw [ite_eq]
  by_cases h : q < S.length
  · simp only [h, decide_true, cond_true]
    unfold i64S
    rw [List.getD_eq_getElem?_getD, List.getD_eq_getElem?_getD, List.getElem?_append_left h]
  · have hq' : q = S.length := by omega
    subst hq'
    simp only [h, decide_false, cond_false, Nat.sub_self, List.getD_cons_zero, hx]
    unfold i64S
    rw [List.getD_eq_getElem?_getD, List.getElem?_append_right (Nat.le_refl _), Nat.sub_self]; rfl
def cM28N : FuncId → Option Spec := look2 [(40, sMd18N), (42, sMd14)]
theorem cM28N_ok : ∀ f S, cM28N f = some S → CallOk Try.prog f S := allOk_spec ⟨sMd18N_ok, sMd14_ok, trivial⟩
def cM28S : FuncId → Option Spec := look2 [(40, sMd18S), (42, sMd14)]
theorem cM28S_ok : ∀ f S, cM28S f = some S → CallOk Try.prog f S := allOk_spec ⟨sMd18S_ok, sMd14_ok, trivial⟩
theorem made28 (xs : List Ins) (a d sn seed id ahead fuel sq : Int) (rg : Nat → Int) (cs ps : List Int) (es : List ESm) (p1 p2 p3 p4 : Nat) (hx : ∀ x ∈ xs, x.ok) (hcap : max xs.length p1 ≤ 9223372036854775807) (hcp : cs.length ≤ p2) (ha : 0 ≤ a ∧ a ≤ 255) (hd : 0 ≤ d ∧ d ≤ 4294967295) (hs : 0 ≤ sn ∧ sn ≤ 255) (hid : 0 ≤ id ∧ id ≤ 255) (hah : 0 ≤ ahead ∧ ahead ≤ 255) (hf : 0 ≤ fuel ∧ fuel ≤ 65535) (hsq : 0 ≤ sq ∧ sq ≤ 65535) (hps : ∀ q, 0 ≤ ps.getD q 0 ∧ ps.getD q 0 ≤ 255) (hpl : ps.length ≤ p3) (hp3 : p3 ≤ 9223372036854775807) (hes : ∀ e ∈ es, e.ok) (hel : es.length ≤ p4) (hp4 : p4 ≤ 9223372036854775807) : LitOk Try.prog 27 [.agg [.sl 1 2 [] 5 0 xs.length (some p1), .agg [.int .u8 a, .arr 8 1 (fun q => .int .i64 (rg q)), .sl 3 4 [] 1 0 cs.length (some p2), .int .u32 d, .int .u8 sn], .int .u64 seed, .int .u8 id, .int .u8 ahead, .int .u16 fuel, .int .u16 sq, .sl 5 6 [] 1 0 ps.length (some p3), .sl 7 8 [] 3 0 es.length (some p4)]]
    [.gone, .gone, .ro (.arr xs.length 5 (prS xs)), .gone, .ro (.arr cs.length 1 (i64S cs)), .gone, .ro (.arr ps.length 1 (u8S ps)), .gone, .ro (.arr es.length 3 (esS es))]
    (.tup [(.agg [.int .u64 seed, .int .i64 (1 + ahead.tmod 5), .int .i64 (fuel.tmod 300)]), pcS (⟨1 + id.tmod 16, made14 xs, cs.take 12, d, sq, mPorts (ps.take 16)⟩ : Prc) 9 10 11, .sl 12 12 [] 5 0 (mEv (1 + id.tmod 16) (es.take 10)).2.length none])
    [.gone, .gone, .gone, .gone, .gone, .gone, .gone, .gone, .gone, prO (made14 xs), i64O (cs.take 12), inO (mPorts (ps.take 16)), .own 39 (.arr (mEv (1 + id.tmod 16) (es.take 10)).2.length 5 (evtsS (mEv (1 + id.tmod 16) (es.take 10)).2)) false] := by
  have y0 := Int.tmod_nonneg 16 hid.1
  have y1 := Int.tmod_lt_of_pos id (show (0 : Int) < 16 by decide)
  have y2 := Int.tmod_nonneg 5 hah.1
  have y3 := Int.tmod_lt_of_pos ahead (show (0 : Int) < 5 by decide)
  have y4 := Int.tmod_nonneg 300 hf.1
  have y5 := Int.tmod_lt_of_pos fuel (show (0 : Int) < 300 by decide)
  cases hm : (mSnd (sn.tmod 21).toNat).isEmpty

  refine litOkM (fn := Try.f27) 9 130 0 rfl rfl rfl rfl rfl (by simp only [StableL, Stable, hp, esS, esA, u8S, pcS, i64S, prS, insS, sndsS, sndS, evtsS, evtS, prO, i64O, inO, evO_, HB.stable]; simp [HB.born]) rfl fun w0 M E hro => ?_
  repeat' (first | refine Ctl.h ?_ | ((with_reducible intro hif); first | (focus (cases hif; done)) | (simp only [JH] at hif; try (exfalso; omega)) | (try (exfalso; omega))) | ((first | ((with_reducible apply J22 cM28S_ok tab_ok); (· rfl)) | ((with_reducible apply J23 fol cM28S_ok tab_ok); (· rfl)) | with_reducible apply J24); (· (simp only [push_cast, ↓JP, Nat.reduceAdd, Nat.reduceEqDiff, Nat.reduceLT, Nat.reduceMul, Nat.reduceLeDiff, reduceCtorEq, reduceIte, ↓JK, cM28S, Nat.sub_zero, hm]; rfl)); (try kernel_rfl); (try exact Vm.b124)) | fail)
  refine At.pick (L2 := [.gone, .gone, .ro (.arr xs.length 5 (prS xs)), .gone, .ro (.arr cs.length 1 (i64S cs)), .gone, .ro (.arr ps.length 1 (u8S ps)), .gone, .ro (.arr es.length 3 (esS es)), .own 78 (.agg [.sl 1 2 [] 5 0 xs.length (some p1), .agg [.int .u8 a, .arr 8 1 (fun q => .int .i64 (rg q)), .sl 3 4 [] 1 0 cs.length (some p2), .int .u32 d, .int .u8 sn], .int .u64 seed, .int .u8 id, .int .u8 ahead, .int .u16 fuel, .int .u16 sq, .sl 5 6 [] 1 0 ps.length (some p3), .sl 7 8 [] 3 0 es.length (some p4)]) true, .own 80 (.agg [.nat .u64 0, .nat .i64 0, .nat .i64 0]) true, .own 82 (.agg [.nat .i64 0, .sl 0 0 [] 0 0 0 (some 0), .sl 0 0 [] 0 0 0 (some 0), .nat .i64 0, .nat .i64 0, .sl 0 0 [] 0 0 0 (some 0)]) true, .own 80 (.agg [.int .u64 seed, .int .i64 (1 + ahead.tmod 5), .int .i64 (fuel.tmod 300)]) true, .own 2 (.arr (cs.take 12).length 1 (i64S (cs.take 12))) false, .own 73 (.arr (made14 xs).length 5 (prS (made14 xs))) false, .own 82 (.agg [.int .i64 (1 + id.tmod 16), .sl 14 14 [] 5 0 (made14 xs).length none, .sl 13 13 [] 1 0 (cs.take 12).length none, .int .i64 d, .int .i64 sq, .sl 0 0 [] 0 0 0 (some 0)]) true, .gone]) (φ2 := [(1, .ptr 9 []), (2, .ptr 10 []), (3, .ptr 11 []), (5, .ptr 12 []), (7, .ptr 15 []), (52, .sl 16 6 [] 1 0 (min ps.length 16) none), (53, .nat .i64 (min ps.length 16)), (54, .nat .i64 0)]) [0, 1, 2, 3, 4, 5, 6, 7, 8, 9, 10, 11, 12, 13, 16, 17, 18] rfl rfl rfl ?_ rfl ?_ ?_ ?_ rfl ?_
  · exact Vm.b37
  · exact Vm.b120
  · exact Vm.b68
  · exact Vm.b120
  rotate_left 1

  refine litOkM (fn := Try.f27) 9 130 0 rfl rfl rfl rfl rfl (by simp only [StableL, Stable, hp, esS, esA, u8S, pcS, i64S, prS, insS, sndsS, sndS, evtsS, evtS, prO, i64O, inO, evO_, HB.stable]; simp [HB.born]) rfl fun w0 M E hro => ?_
  repeat' (first | refine Ctl.h ?_ | ((with_reducible intro hif); first | (focus (cases hif; done)) | (simp only [JH] at hif; try (exfalso; omega)) | (try (exfalso; omega))) | ((first | ((with_reducible apply J22 cM28N_ok tab_ok); (· rfl)) | ((with_reducible apply J23 fol cM28N_ok tab_ok); (· rfl)) | with_reducible apply J24); (· exact Vm.b125); (try kernel_rfl); (try exact Vm.b124)) | fail)
  refine At.pick (L2 := [.gone, .gone, .ro (.arr xs.length 5 (prS xs)), .gone, .ro (.arr cs.length 1 (i64S cs)), .gone, .ro (.arr ps.length 1 (u8S ps)), .gone, .ro (.arr es.length 3 (esS es)), .own 78 (.agg [.sl 1 2 [] 5 0 xs.length (some p1), .agg [.int .u8 a, .arr 8 1 (fun q => .int .i64 (rg q)), .sl 3 4 [] 1 0 cs.length (some p2), .int .u32 d, .int .u8 sn], .int .u64 seed, .int .u8 id, .int .u8 ahead, .int .u16 fuel, .int .u16 sq, .sl 5 6 [] 1 0 ps.length (some p3), .sl 7 8 [] 3 0 es.length (some p4)]) true, .own 80 (.agg [.nat .u64 0, .nat .i64 0, .nat .i64 0]) true, .own 82 (.agg [.nat .i64 0, .sl 0 0 [] 0 0 0 (some 0), .sl 0 0 [] 0 0 0 (some 0), .nat .i64 0, .nat .i64 0, .sl 0 0 [] 0 0 0 (some 0)]) true, .own 80 (.agg [.int .u64 seed, .int .i64 (1 + ahead.tmod 5), .int .i64 (fuel.tmod 300)]) true, .own 2 (.arr (cs.take 12).length 1 (i64S (cs.take 12))) false, .own 73 (.arr (made14 xs).length 5 (prS (made14 xs))) false, .own 82 (.agg [.int .i64 (1 + id.tmod 16), .sl 14 14 [] 5 0 (made14 xs).length none, .sl 13 13 [] 1 0 (cs.take 12).length none, .int .i64 d, .int .i64 sq, .sl 0 0 [] 0 0 0 (some 0)]) true, .gone]) (φ2 := [(1, .ptr 9 []), (2, .ptr 10 []), (3, .ptr 11 []), (5, .ptr 12 []), (7, .ptr 15 []), (52, .sl 16 6 [] 1 0 (min ps.length 16) none), (53, .nat .i64 (min ps.length 16)), (54, .nat .i64 0)]) [0, 1, 2, 3, 4, 5, 6, 7, 8, 9, 10, 11, 12, 13, 15, 16, 17] rfl rfl rfl ?_ rfl ?_ ?_ ?_ rfl ?_
  · exact Vm.b37
  · exact Vm.b120
  · exact Vm.b68
  · exact Vm.b120

  all_goals
    refine At.nilIn 3 1 (i64S []) 15 82 (.agg [.int .i64 (1 + id.tmod 16), .sl 14 14 [] 5 0 (made14 xs).length none, .sl 13 13 [] 1 0 (cs.take 12).length none, .int .i64 d, .int .i64 sq, .sl 0 0 [] 0 0 0 (some 0)]) (.agg [.int .i64 (1 + id.tmod 16), .sl 14 14 [] 5 0 (made14 xs).length none, .sl 13 13 [] 1 0 (cs.take 12).length none, .int .i64 d, .int .i64 sq, .sl 17 17 [] 1 0 0 none]) true (fun _ q => i64S_stable q) rfl (fun β b0 hβ => by
        have e := nil_cl (k := 1) b0 (show β 17 = (none, 0) from hβ)
        simp only [SV.cl, SV.den, denL] at e ⊢
        rw [e]) (fun h hb => by
        have k13 := hb 13 (show (13 : Nat) ≤ 17 by decide)
        have k14 := hb 14 (show (14 : Nat) ≤ 17 by decide)
        have k17 := hb 17 (show (17 : Nat) ≤ 17 by decide)
        simp [Stable, StableL, k13, k14, k17]) rfl (fun n k f e => by cases e) (fun n k f e => by cases e) rfl ?_
    simp only [setH, List.cons_append, List.nil_append]
    have hz : Less (.own 3 (.arr 0 1 (i64S [])) false) (.own 3 (.arr 0 1 (i64S (mPorts (ps.take 0)))) false) := .same _
    refine WF.loopAt (fun (j : Nat) => j ≤ min ps.length 16) (fun (j : Nat) => [(1, .ptr 9 []), (2, .ptr 10 []), (3, .ptr 11 []), (5, .ptr 12 []), (7, .ptr 15 []), (52, .sl 16 6 [] 1 0 (min ps.length 16) none), (53, .nat .i64 (min ps.length 16)), (54, .nat .i64 j)]) (fun (j : Nat) => [.gone, .gone, .ro (.arr xs.length 5 (prS xs)), .gone, .ro (.arr cs.length 1 (i64S cs)), .gone, .ro (.arr ps.length 1 (u8S ps)), .gone, .ro (.arr es.length 3 (esS es)), .own 78 (.agg [.sl 1 2 [] 5 0 xs.length (some p1), .agg [.int .u8 a, .arr 8 1 (fun q => .int .i64 (rg q)), .sl 3 4 [] 1 0 cs.length (some p2), .int .u32 d, .int .u8 sn], .int .u64 seed, .int .u8 id, .int .u8 ahead, .int .u16 fuel, .int .u16 sq, .sl 5 6 [] 1 0 ps.length (some p3), .sl 7 8 [] 3 0 es.length (some p4)]) true, .own 80 (.agg [.nat .u64 0, .nat .i64 0, .nat .i64 0]) true, .own 82 (.agg [.nat .i64 0, .sl 0 0 [] 0 0 0 (some 0), .sl 0 0 [] 0 0 0 (some 0), .nat .i64 0, .nat .i64 0, .sl 0 0 [] 0 0 0 (some 0)]) true, .own 80 (.agg [.int .u64 seed, .int .i64 (1 + ahead.tmod 5), .int .i64 (fuel.tmod 300)]) true, .own 2 (.arr (cs.take 12).length 1 (i64S (cs.take 12))) false, .own 73 (.arr (made14 xs).length 5 (prS (made14 xs))) false, .own 82 (.agg [.int .i64 (1 + id.tmod 16), .sl 14 14 [] 5 0 (made14 xs).length none, .sl 13 13 [] 1 0 (cs.take 12).length none, .int .i64 d, .int .i64 sq, .sl 17 17 [] 1 0 j none]) true, .gone, .own 3 (.arr j 1 (i64S (mPorts (ps.take j)))) false]) (fun (j : Nat) => min ps.length 16 - j) 0 (Nat.zero_le _) ?_ ?_ rfl ?_ ?_ rfl ?_
    · exact Vm.b11
    · exact Vm.b8
    · exact Vm.b120
    · exact Vm.b120
    intro j hj
    by_cases hjl : j < min ps.length 16
    · have hjp : j < ps.length := by omega
      have hpj := hps j
      have w0 := Int.tmod_nonneg 17 hpj.1
      have w1 := Int.tmod_lt_of_pos (ps.getD j 0) (show (0 : Int) < 17 by decide)
      have hT : mPorts (ps.take (j + 1)) = mPorts (ps.take j) ++ [(ps.getD j 0).tmod 17] := by rw [take_snoc 0 hjp]; simp [mPorts]
      have hTl : (mPorts (ps.take j)).length = j := by simp [mPorts]; omega
      repeat' (first | refine Ctl.h ?_ | ((with_reducible intro hif); first | (focus (cases hif; done)) | (simp only [JH] at hif; try (exfalso; omega)) | (try (exfalso; omega))) | ((first | ((with_reducible apply J22 cM28N_ok tab_ok); (· rfl)) | ((with_reducible apply J23 fol cM28N_ok tab_ok); (· rfl)) | with_reducible apply J24); (· (simp only [push_cast, ↓JP, Nat.reduceAdd, Nat.reduceEqDiff, Nat.reduceLT, Nat.reduceMul, Nat.reduceLeDiff, reduceCtorEq, reduceIte, ↓JK, cM28N, Nat.sub_zero, hm, hjl]; rfl)); (try kernel_rfl); (try exact Vm.b124)) | fail)
      refine At.nextPick [0, 1, 2, 3, 4, 5, 6, 7, 8, 9, 10, 11, 12, 13, 14, 15, 16, 19] (j + 1) ?_ rfl rfl rfl ?_ rfl ?_ ?_ ?_ rfl
      · omega
      · (repeat' (first | exact trivial | exact .inl rfl | exact .inr (.same _) | exact .inr .loose | exact .inr (.arr (by assumption)) | apply And.intro | (rw [hT]; exact .inr (less_appI _ _ hTl rfl (fun β => rfl)))))
      · exact Vm.b120
      · exact Vm.b68
      · exact Vm.b120
    · obtain rfl : j = min ps.length 16 := by omega
      have hpt : ps.take (min ps.length 16) = ps.take 16 := by
        rcases Nat.le_total ps.length 16 with h | h
        · exact Vm.b107
        · rw [Nat.min_eq_right h]
      rw [hpt]
      have hPl : (mPorts (ps.take 16)).length = min ps.length 16 := by simp [mPorts, Nat.min_comm]
      repeat' (first | refine Ctl.h ?_ | ((with_reducible intro hif); first | (focus (cases hif; done)) | (simp only [JH] at hif; try (exfalso; omega)) | (try (exfalso; omega))) | ((first | ((with_reducible apply J22 cM28N_ok tab_ok); (· rfl)) | ((with_reducible apply J23 fol cM28N_ok tab_ok); (· rfl)) | with_reducible apply J24); (· exact Vm.b125); (try kernel_rfl); (try exact Vm.b124)) | fail)
      refine WF.nilFr (φ2 := [(1, .ptr 9 []), (2, .ptr 10 []), (3, .ptr 11 []), (5, .ptr 12 []), (7, .ptr 15 []), (10, .sl 19 19 [] 5 0 0 none), (11, .int .i64 1), (73, .sl 18 8 [] 3 0 (min es.length 10) none), (74, .nat .i64 (min es.length 10)), (75, .nat .i64 0)]) 39 5 (evtsS []) (fun _ q => evtsS_stable q) rfl ?_ ?_ ?_
      · refine ⟨⟨_, rfl, fun β _ _ => rfl⟩, ⟨_, rfl, fun β _ _ => rfl⟩, ⟨_, rfl, fun β _ _ => rfl⟩, ⟨_, rfl, fun β _ _ => rfl⟩, ⟨_, rfl, fun β _ _ => rfl⟩, ⟨_, rfl, fun β h0 hx => (nil_cl (k := 5) h0 (show β 19 = (none, 0) from hx)).symm⟩, ⟨_, rfl, fun β _ _ => rfl⟩, ⟨_, rfl, fun β _ _ => rfl⟩, ⟨_, rfl, fun β _ _ => rfl⟩, ⟨_, rfl, fun β _ _ => rfl⟩, trivial⟩
      · simp [StableF, Stable, hp, HB.born]
      simp only [List.cons_append, List.nil_append]
      have hz2 : Less (.own 39 (.arr 0 5 (evtsS [])) false) (.own 39 (.arr 0 5 (evtsS (mEv (1 + id.tmod 16) (es.take 0)).2)) false) := .same _
      refine WF.loopAt (fun (k : Nat) => k ≤ min es.length 10) (fun (k : Nat) => [(1, .ptr 9 []), (2, .ptr 10 []), (3, .ptr 11 []), (5, .ptr 12 []), (7, .ptr 15 []), (10, .sl 19 19 [] 5 0 k none), (11, .int .i64 (mEv (1 + id.tmod 16) (es.take k)).1), (73, .sl 18 8 [] 3 0 (min es.length 10) none), (74, .nat .i64 (min es.length 10)), (75, .nat .i64 k)]) (fun (k : Nat) => [.gone, .gone, .ro (.arr xs.length 5 (prS xs)), .gone, .ro (.arr cs.length 1 (i64S cs)), .gone, .ro (.arr ps.length 1 (u8S ps)), .gone, .ro (.arr es.length 3 (esS es)), .own 78 (.agg [.sl 1 2 [] 5 0 xs.length (some p1), .agg [.int .u8 a, .arr 8 1 (fun q => .int .i64 (rg q)), .sl 3 4 [] 1 0 cs.length (some p2), .int .u32 d, .int .u8 sn], .int .u64 seed, .int .u8 id, .int .u8 ahead, .int .u16 fuel, .int .u16 sq, .sl 5 6 [] 1 0 ps.length (some p3), .sl 7 8 [] 3 0 es.length (some p4)]) true, .own 80 (.agg [.nat .u64 0, .nat .i64 0, .nat .i64 0]) true, .own 82 (.agg [.nat .i64 0, .sl 0 0 [] 0 0 0 (some 0), .sl 0 0 [] 0 0 0 (some 0), .nat .i64 0, .nat .i64 0, .sl 0 0 [] 0 0 0 (some 0)]) true, .own 80 (.agg [.int .u64 seed, .int .i64 (1 + ahead.tmod 5), .int .i64 (fuel.tmod 300)]) true, .own 2 (.arr (cs.take 12).length 1 (i64S (cs.take 12))) false, .own 73 (.arr (made14 xs).length 5 (prS (made14 xs))) false, .own 82 (.agg [.int .i64 (1 + id.tmod 16), .sl 14 14 [] 5 0 (made14 xs).length none, .sl 13 13 [] 1 0 (cs.take 12).length none, .int .i64 d, .int .i64 sq, .sl 17 17 [] 1 0 (min ps.length 16) none]) true, .gone, .own 3 (.arr (min ps.length 16) 1 (i64S (mPorts (ps.take 16)))) false, .gone, .own 39 (.arr k 5 (evtsS (mEv (1 + id.tmod 16) (es.take k)).2)) false]) (fun (k : Nat) => min es.length 10 - k) 0 (Nat.zero_le _) ?_ ?_ rfl ?_ ?_ rfl ?_
      · ((repeat' (first | exact trivial | apply And.intro)) <;> (first | rfl | rfl))
      · exact Vm.b8
      · exact Vm.b120
      · exact Vm.b120
      intro k hk
      by_cases hkl : k < min es.length 10
      · have hke : k < es.length := by omega
        have hI := mi_all (id := (1 + id.tmod 16)) (l := es.take 10) (by rw [List.length_take]; omega) (fun e he => hes e (List.mem_of_mem_take he)) k (by rw [List.length_take]; omega)
        rw [List.take_take, Nat.min_eq_left (by omega)] at hI
        have hSn : mEv (1 + id.tmod 16) (es.take (k + 1)) = mStep (1 + id.tmod 16) (mEv (1 + id.tmod 16) (es.take k)) (es.getD k ⟨0, 0, 0⟩) := by rw [take_snoc ⟨0, 0, 0⟩ hke, mEv_snoc]
        obtain ⟨S, hS⟩ : ∃ S, mEv (1 + id.tmod 16) (es.take k) = S := ⟨_, rfl⟩
        obtain ⟨e, he⟩ : ∃ e, es.getD k ⟨0, 0, 0⟩ = e := ⟨_, rfl⟩
        have heo : e.ok := by
          rw [← he, List.getD_eq_getElem?_getD, List.getElem?_eq_getElem hke]
          exact hes _ (List.getElem_mem _)
        rw [hS] at hI hSn
        rw [he] at hSn
        rw [hS]
        obtain ⟨at0, l⟩ := S
        have hn := hI.n
        have t0 := hI.t0
        have t1 := hI.t1
        have m0 := heo.m0
        have m1 := heo.m1
        have s0 := heo.s0
        have s1 := heo.s1
        have s2 := Int.tmod_nonneg 17 heo.s0
        have s3 := Int.tmod_lt_of_pos e.source (show (0 : Int) < 17 by decide)
        dsimp only at hn t0 t1 ⊢
        have hden : ∀ β, (SV.int .i64 (at0 + e.more)).den β = (SV.int .i64 (mEv (1 + id.tmod 16) (es.take (k + 1))).1).den β := fun β => by rw [hSn]; rfl
        by_cases hk0 : 0 < k
        · have hkm : ((k : Int) - 1).toNat = k - 1 := by omega
          have hlE : lastE l = l.getD (k - 1) ⟨0, 0, 0, 0, 0⟩ := by unfold lastE; rw [hn]
          have hk1 : k - 1 < l.length := by omega
          by_cases hte : (l.getD (k - 1) ⟨0, 0, 0, 0, 0⟩).time = at0 + e.more
          · have hsr : mSrc l (at0 + e.more) (e.source.tmod 17) = max (e.source.tmod 17) (l.getD (k - 1) ⟨0, 0, 0, 0, 0⟩).source := by unfold mSrc; rw [hlE, if_pos ⟨by omega, hte⟩]
            have hS2 : (mEv (1 + id.tmod 16) (es.take (k + 1))).2 = l ++ [⟨at0 + e.more, max (e.source.tmod 17) (l.getD (k - 1) ⟨0, 0, 0, 0, 0⟩).source, k, (1 + id.tmod 16), e.value⟩] := by rw [hSn, ← hsr, ← hn]; rfl
            repeat' (first | refine Ctl.h ?_ | ((with_reducible intro hif); first | (focus (cases hif; done)) | (simp only [JH] at hif; try (exfalso; omega)) | (try (exfalso; omega))) | ((first | ((with_reducible apply J22 cM28N_ok tab_ok); (· rfl)) | ((with_reducible apply J23 fol cM28N_ok tab_ok); (· rfl)) | with_reducible apply J24); (· exact Vm.b126); (try kernel_rfl); (try exact Vm.b124)) | fail)
            refine At.nextPick [0, 1, 2, 3, 4, 5, 6, 7, 8, 9, 10, 11, 12, 13, 14, 15, 16, 17, 18, 22] (k + 1) ?_ rfl rfl rfl ?_ rfl ?_ ?_ ?_ rfl
            · omega
            · exact Vm.b121
            · exact Vm.b120
            · exact Vm.b122
            · exact Vm.b120
          · have hsr : mSrc l (at0 + e.more) (e.source.tmod 17) = e.source.tmod 17 := by unfold mSrc; rw [hlE, if_neg (fun h => hte h.2)]
            have hS2 : (mEv (1 + id.tmod 16) (es.take (k + 1))).2 = l ++ [⟨at0 + e.more, e.source.tmod 17, k, (1 + id.tmod 16), e.value⟩] := by rw [hSn, ← hsr, ← hn]; rfl
            repeat' (first | refine Ctl.h ?_ | ((with_reducible intro hif); first | (focus (cases hif; done)) | (simp only [JH] at hif; try (exfalso; omega)) | (try (exfalso; omega))) | ((first | ((with_reducible apply J22 cM28N_ok tab_ok); (· rfl)) | ((with_reducible apply J23 fol cM28N_ok tab_ok); (· rfl)) | with_reducible apply J24); (· exact Vm.b126); (try kernel_rfl); (try exact Vm.b124)) | fail)
            refine At.nextPick [0, 1, 2, 3, 4, 5, 6, 7, 8, 9, 10, 11, 12, 13, 14, 15, 16, 17, 18, 22] (k + 1) ?_ rfl rfl rfl ?_ rfl ?_ ?_ ?_ rfl
            · omega
            · exact Vm.b121
            · exact Vm.b120
            · exact Vm.b122
            · exact Vm.b120
        · obtain rfl : k = 0 := by omega
          obtain rfl : l = [] := List.eq_nil_of_length_eq_zero hn
          have hsr : mSrc [] (at0 + e.more) (e.source.tmod 17) = e.source.tmod 17 := by unfold mSrc; rw [if_neg (fun h => absurd h.1 (Nat.lt_irrefl 0))]
          have hS2 : (mEv (1 + id.tmod 16) (es.take (0 + 1))).2 = [⟨at0 + e.more, e.source.tmod 17, 0, (1 + id.tmod 16), e.value⟩] := by
            rw [hSn, ← hsr]; rfl
          repeat' (first | refine Ctl.h ?_ | ((with_reducible intro hif); first | (focus (cases hif; done)) | (simp only [JH] at hif; try (exfalso; omega)) | (try (exfalso; omega))) | ((first | ((with_reducible apply J22 cM28N_ok tab_ok); (· rfl)) | ((with_reducible apply J23 fol cM28N_ok tab_ok); (· rfl)) | with_reducible apply J24); (· (simp only [push_cast, ↓JP, Nat.reduceAdd, Nat.reduceEqDiff, Nat.reduceLT, Nat.reduceMul, Nat.reduceLeDiff, reduceCtorEq, reduceIte, ↓JK, cM28N, Nat.sub_zero, hm, hkl, he, evtsS, ↓evtS_sz, ↓evtS_ag, ↓evtS_pl, nav_evt, nav_evt0, nav_evt1, nav_evt2, evm_ev]; rfl)); (try kernel_rfl); (try exact Vm.b124)) | fail)
          refine At.nextPick [0, 1, 2, 3, 4, 5, 6, 7, 8, 9, 10, 11, 12, 13, 14, 15, 16, 17, 18, 22] (0 + 1) ?_ rfl rfl rfl ?_ rfl ?_ ?_ ?_ rfl
          · omega
          · exact Vm.b121
          · exact Vm.b120
          · exact Vm.b122
          · exact Vm.b120
      · obtain rfl : k = min es.length 10 := by omega
        have het : es.take (min es.length 10) = es.take 10 := by
          rcases Nat.le_total es.length 10 with h | h
          · exact Vm.b107
          · rw [Nat.min_eq_right h]
        rw [het]
        have hEl : (mEv (1 + id.tmod 16) (es.take 10)).2.length = min es.length 10 := by
          have := (mEv_good (p := ⟨(1 + id.tmod 16), [], [], 0, 0, []⟩) (l := es.take 10) (by rw [List.length_take]; omega) (fun e he => hes e (List.mem_of_mem_take he))).1
          rw [show (Prc.mk (1 + id.tmod 16) [] [] 0 0 []).id = (1 + id.tmod 16) from rfl] at this
          rw [this, List.length_take, Nat.min_comm]
        repeat' (first | refine Ctl.h ?_ | ((with_reducible intro hif); first | (focus (cases hif; done)) | (simp only [JH] at hif; try (exfalso; omega)) | (try (exfalso; omega))) | ((first | ((with_reducible apply J22 cM28N_ok tab_ok); (· rfl)) | ((with_reducible apply J23 fol cM28N_ok tab_ok); (· rfl)) | with_reducible apply J24); (· exact Vm.b125); (try kernel_rfl); (try exact Vm.b124)) | fail)
        apply At.endsPick [0, 1, 2, 3, 4, 5, 6, 7, 8, 14, 13, 17, 19] tab_ok (fn := Try.f27) (rs := [.cell 2 80, .cell 3 82, .tmp 4]) Anc.refl hro (Nat.le_of_ble_eq_true rfl) rfl
        · exact Vm.b18
        · exact Vm.b24
        · rfl
        · rfl
        · rfl
        · (repeat' (first | exact trivial | exact .inl rfl | exact .inr (.same _) | exact .inr .loose | exact .inr (.arr (by assumption)) | apply And.intro | (simp only [inO, hPl, hEl]; exact .inr (.same _))))
        · rfl
        · exact Vm.b120
        · exact Vm.b10
        · intro β; simp only [pcS, hPl, hEl]; rfl
        · exact Vm.b120
end Go.Proofs.Ytjliakjbdcplcaa.Vm
end

section
namespace Go.Proofs.Ytjliakjbdcplcaa.Vm
open Go.RowKit
set_option linter.unusedVariables false
set_option linter.unusedSimpArgs false
set_option maxRecDepth 100000
set_option maxHeartbeats 4000000
theorem capB_max {v : SV} {β : Env} {A : Option Addr} {n m p : Nat} (h : capB v) (d : v.den β = .slice A n p) (hn : m ≤ p) : max m p ≤ 9223372036854775807 := by
  have := capB_le h d
  omega
def esOf : SV → ESm
  | .agg [a, b, c] => ⟨iOf a, iOf b, iOf c⟩
  | _ => ⟨0, 0, 0⟩
def isEs : SV → Bool
  | .agg [a, b, c] => isI .u8 a && isI .u8 b && isI .i64 c
  | _ => false
theorem isEs_cl {v : SV} {β : Env} (h : isEs v = true) : v.cl β = (esOf v).cells := by
  unfold isEs at h
  split at h
  · rename_i a b c
    simp only [Bool.and_eq_true] at h
    obtain ⟨⟨h1, h2⟩, h3⟩ := h
    rw [cl_agg]
    simp only [clL_cons, clL_nil, isI_cl h1, isI_cl h2, isI_cl h3, esOf, ESm.cells, List.cons_append, List.nil_append]
  · cases h
theorem elems_es {β : Env} {n : Nat} {f : Nat → SV} (hf : ∀ q, q < n → isEs (f q) = true) : elems β 3 n f = esV (ls esOf n f) := elems_ls isEs_cl (fun _ => rfl) hf
theorem viewEs {w : World} {β : Env} {A : Option Addr} {n cap : Nat} {f : Nat → SV} (hr : Reads w w.heap.size 3 A n (elems β 3 n f)) (hn : n ≤ cap) (hf : ∀ q, q < n → isEs (f q) = true) : (View.mk 3 (ls esOf n f).length (esS (ls esOf n f)) A cap).Ok w :=
  ⟨fun β' => by rw [elems_esS, ls_length]; rwa [elems_es hf] at hr, by rw [ls_length]; exact hn, fun h q => esS_stable q, Nat.succ_pos _⟩
theorem elems_u8 {β : Env} {n : Nat} {f : Nat → SV} (hf : ∀ q, q < n → isI .u8 (f q) = true) : elems β 1 n f = u8V (ls iOf n f) := by
  rw [elems_ls (cells := fun x => [.int .u8 x]) isI_cl (fun _ => rfl) hf]
  unfold u8V
  rw [List.flatMap_def]
  induction ls iOf n f with
  | nil => rfl
  | cons x l ih => simp [ih]
theorem viewU8 {w : World} {β : Env} {A : Option Addr} {n cap : Nat} {f : Nat → SV} (hr : Reads w w.heap.size 1 A n (elems β 1 n f)) (hn : n ≤ cap) (hf : ∀ q, q < n → isI .u8 (f q) = true) : (View.mk 1 (ls iOf n f).length (u8S (ls iOf n f)) A cap).Ok w :=
  ⟨fun β' => by rw [elems_u8S, ls_length]; rwa [elems_u8 hf] at hr, by rw [ls_length]; exact hn, fun h q => u8S_stable q, Nat.succ_pos _⟩
theorem ls_u8S (l : List Int) : ls iOf l.length (u8S l) = l := ls_of (g := iOf) (e := fun x => .int .u8 x) (fun _ => rfl) l 0
theorem ls_u8S' (l : List Int) : ls iOf l.length (fun q => u8S l q) = l := ls_u8S l
theorem ls_esS (l : List ESm) : ls esOf l.length (esS l) = l := ls_of (g := esOf) (e := esA) (fun _ => rfl) l _
theorem ls_esS' (l : List ESm) : ls esOf l.length (fun q => esS l q) = l := ls_esS l
def sMd28 : Spec := fun args h m => match args with
  | [.agg [v1, .agg [v2, .arr 8 1 v3, v4, v5, v6], v7, v8, v9, v10, v11, v12, v13]] => match srcV h 5 (.tup []) v1, srcV h 1 (.tup []) v4, srcV h 1 (.tup []) v12, srcV h 3 (.tup []) v13 with
    | some (c1, n1, f1, r1), some (c4, n4, f4, r4), some (c12, n12, f12, r12), some (c13, n13, f13, r13) => bif isI .u8 v2 && isI .u32 v5 && isI .u8 v6 && isI .u64 v7 && isI .u8 v8 && isI .u8 v9 && isI .u16 v10 && isI .u16 v11 then some (c1 ∧ c4 ∧ c12 ∧ c13 ∧ (∀ q, q < n1 → isIns (f1 q) = true) ∧ (∀ q, q < n4 → isI .i64 (f4 q) = true) ∧ (∀ q, q < n12 → isI .u8 (f12 q) = true) ∧ (∀ q, q < n13 → isEs (f13 q) = true) ∧ (∀ q, q < 8 → isI .i64 (v3 q) = true) ∧ ((∀ x ∈ (ls insOf n1 f1), x.ok)) ∧ (capB v1) ∧ (0 ≤ (iOf v2) ∧ (iOf v2) ≤ 255) ∧ (0 ≤ (iOf v5) ∧ (iOf v5) ≤ 4294967295) ∧ (0 ≤ (iOf v6) ∧ (iOf v6) ≤ 255) ∧ (0 ≤ (iOf v8) ∧ (iOf v8) ≤ 255) ∧ (0 ≤ (iOf v9) ∧ (iOf v9) ≤ 255) ∧ (0 ≤ (iOf v10) ∧ (iOf v10) ≤ 65535) ∧ (0 ≤ (iOf v11) ∧ (iOf v11) ≤ 65535) ∧ ((∀ q, 0 ≤ (ls iOf n12 f12).getD q 0 ∧ (ls iOf n12 f12).getD q 0 ≤ 255)) ∧ (capB v12) ∧ ((∀ e ∈ (ls esOf n13 f13), e.ok)) ∧ (capB v13), .tup [.agg [.int .u64 (iOf v7), .int .i64 (1 + (iOf v9).tmod 5), .int .i64 ((iOf v10).tmod 300)], pcS (⟨1 + (iOf v8).tmod 16, made14 (ls insOf n1 f1), (ls iOf n4 f4).take 12, (iOf v5), (iOf v11), mPorts ((ls iOf n12 f12).take 16)⟩ : Prc) m (m + 1) (m + 2), .sl (m + 3) (m + 3) [] 5 0 (mEv (1 + (iOf v8).tmod 16) ((ls esOf n13 f13).take 10)).2.length none], r1 ++ r4 ++ r12 ++ r13, [(m, prO (made14 (ls insOf n1 f1))), (m + 1, i64O ((ls iOf n4 f4).take 12)), (m + 2, inO (mPorts ((ls iOf n12 f12).take 16))), (m + 3, .own 39 (.arr (mEv (1 + (iOf v8).tmod 16) ((ls esOf n13 f13).take 10)).2.length 5 (evtsS (mEv (1 + (iOf v8).tmod 16) ((ls esOf n13 f13).take 10)).2)) false)]) else none
    | _, _, _, _ => none
  | _ => none
theorem sMd28_ok : CallOk Try.prog 27 sMd28 := by
  refine ⟨named_spec (by kernel_rfl), fun args h m c v rd wr hs hm hc w0 M β h' w R hrd hwr hst => ?_⟩
  unfold sMd28 at hs
  split at hs
  · rename_i v1 v2 v3 v4 v5 v6 v7 v8 v9 v10 v11 v12 v13
    split at hs
    · rename_i c1 n1 f1 r1 c4 n4 f4 r4 c12 n12 f12 r12 c13 n13 f13 r13 a1 a4 a12 a13
      obtain ⟨hb, hs⟩ := bif_some hs
      simp only [Option.some.injEq, Prod.mk.injEq] at hs
      obtain ⟨rfl, rfl, rfl, rfl⟩ := hs
      simp only [Bool.and_eq_true] at hb
      obtain ⟨⟨⟨⟨⟨⟨⟨b2, b5⟩, b6⟩, b7⟩, b8⟩, b9⟩, b10⟩, b11⟩ := hb
      obtain ⟨k1, k4, k12, k13, g1, g4, g12, g13, g3, y1, y2, y3, y4, y5, y6, y7, y8, y9, y10, y11, y12, y13⟩ := hc
      obtain ⟨A1, p1, d1, e1, t1⟩ := reads_src R a1 k1 (fun i hi => hrd i (List.mem_append_left _ (List.mem_append_left _ (List.mem_append_left _ hi)))) (by omega)
      obtain ⟨A4, p4, d4, e4, t4⟩ := reads_src R a4 k4 (fun i hi => hrd i (List.mem_append_left _ (List.mem_append_left _ (List.mem_append_right _ hi)))) (by omega)
      obtain ⟨A12, p12, d12, e12, t12⟩ := reads_src R a12 k12 (fun i hi => hrd i (List.mem_append_left _ (List.mem_append_right _ hi))) (by omega)
      obtain ⟨A13, p13, d13, e13, t13⟩ := reads_src R a13 k13 (fun i hi => hrd i (List.mem_append_right _ hi)) (by omega)
      refine callRo (views := [⟨5, (ls insOf n1 f1).length, prS (ls insOf n1 f1), A1, p1⟩, ⟨1, (ls iOf n4 f4).length, i64S (ls iOf n4 f4), A4, p4⟩, ⟨1, (ls iOf n12 f12).length, u8S (ls iOf n12 f12), A12, p12⟩, ⟨3, (ls esOf n13 f13).length, esS (ls esOf n13 f13), A13, p13⟩]) (made28 (ls insOf n1 f1) (iOf v2) (iOf v5) (iOf v6) (iOf v7) (iOf v8) (iOf v9) (iOf v10) (iOf v11) (fun q => iOf (v3 q)) (ls iOf n4 f4) (ls iOf n12 f12) (ls esOf n13 f13) p1 p4 p12 p13 y1 (capB_max y2 d1 (by rw [ls_length]; exact e1)) (by rw [ls_length]; exact e4) y3 y4 y5 y6 y7 y8 y9 y10 (by rw [ls_length]; exact e12) (capB_le y11 d12) y12 (by rw [ls_length]; exact e13) (capB_le y13 d13)) ?_ R hm hwr ?_ ?_ ?_
      · intro x hx
        simp only [List.mem_cons, List.not_mem_nil, or_false] at hx
        rcases hx with rfl | rfl | rfl | rfl
        · exact viewIns t1 e1 g1
        · exact viewI64 t4 e4 g4
        · exact viewU8 t12 e12 g12
        · exact viewEs t13 e13 g13
      · intro β1 hv
        simp only [Vd, ls_length, and_true] at hv
        obtain ⟨z1, z4, z12, z13⟩ := hv
        simp only [denL, aggDen, intDen, natDen, boolDen, ls_length, z1, z4, z12, z13, d1, d4, d12, d13, isI_den b2, isI_den b5, isI_den b6, isI_den b7, isI_den b8, isI_den b9, isI_den b10, isI_den b11, ← r8Den (β := β) (β1 := β1) g3]
      · exact Vm.b123
      · exact Vm.b123
    · cases hs
  · cases hs
end Go.Proofs.Ytjliakjbdcplcaa.Vm
end

section
namespace Go.Proofs.Ytjliakjbdcplcaa
open Go.ChangeShapes Go.WideShapes Go.ChangeAt Go.RowKit Go.Deep
set_option linter.unusedVariables false
set_option linter.unusedSimpArgs false
namespace Vm
theorem esV_len (l : List ESm) : (esV l).length = l.length * 3 := flat_len ESm.cells 3 (fun _ => rfl) l
end Vm
theorem es_len {w : World} {B n : Nat} {A : Option Addr} {l : List Vm.ESm} (h : Reads w B 3 A n (Vm.esV l)) : l.length = n := by have := h.1; rw [Vm.esV_len] at this; omega
set_option maxRecDepth 100000 in
theorem open_events28 {H : Type} {enc : TypeId × Value → H} {w : World} {n : Nat} {v : Value} {x : DataW H × List MemPlace} (h : DataW.trod enc Try.prog w 0 (fun _ => true) true n 76 [v] = some x) :
    ∃ A l c xs, v = .slice A l c ∧ l ≤ c ∧ c ≤ 9223372036854775807 ∧ (∀ i ∈ xs, Vm.ESm.ok i) ∧ Reads w w.heap.size 3 A l (Vm.esV xs) := by
  have h3 : Try.prog.cellsOf 134 = 3 := by kernel_rfl
  have hc1 : Try.prog.cellsOf 5 = 1 := by kernel_rfl
  have hc2 : Try.prog.cellsOf 2 = 1 := by kernel_rfl
  rcases open_slice Try.underlying76 h with ⟨h0, _⟩ | ⟨a, len, cap, m, k, D, Pl, h0, _, hl, hm, hmm, _, hx⟩
  · exact Vm.b5
  · have hmc : m = cap := hmm.trans (if_pos rfl)
    have each : ∀ i, i < len → ∃ y : Vm.ESm, y.ok ∧ ∀ j u, y.cells[j]? = some u → w.cell? (a.add (i * 3 + j)) = some u := by
      intro i hi
      obtain ⟨cs', h1, h2⟩ := hx i (by omega)
      rw [h3] at h1
      obtain ⟨_, hlen, hcell⟩ := World.cells?_some h1
      obtain ⟨ys, q, _, _, _, hyl, hf⟩ := DataW.trod_struct Try.underlying134 h2
      match ys, hyl, cs', hlen with
      | [y0, y1, y2], _, [c0, c1, c2], _ =>
        have g0 : DataW.trod enc Try.prog w 0 (fun _ => true) true q 5 [c0] = some y0 := by simpa [hc1, hc2] using hf 0 _ rfl
        have g1 : DataW.trod enc Try.prog w 0 (fun _ => true) true q 5 [c1] = some y1 := by simpa [hc1, hc2] using hf 1 _ rfl
        have g2 : DataW.trod enc Try.prog w 0 (fun _ => true) true q 2 [c2] = some y2 := by simpa [hc1, hc2] using hf 2 _ rfl
        obtain ⟨a0, rfl, b0⟩ := trod_int_at17 Try.underlying5 g0
        obtain ⟨a1, rfl, b1⟩ := trod_int_at17 Try.underlying5 g1
        obtain ⟨a2, rfl, b2⟩ := trod_int_at17 Try.underlying2 g2
        simp [Lit.wf, IntKind.min, IntKind.max, IntKind.signed, IntKind.bits] at b0 b1 b2
        refine ⟨⟨a0, a1, a2⟩, ⟨b0.1, b0.2, b1.1, b1.2⟩, fun j u hj => ?_⟩
        have hj5 : j < 3 := (List.getElem?_eq_some_iff.1 hj).1
        have := hcell j hj5
        rw [Vm.add_add] at this
        rw [this]
        exact hj
    have : Inhabited Vm.ESm := ⟨⟨0, 0, 0⟩⟩
    obtain ⟨f, hf⟩ := choose_lt (n := len) (p := fun i (y : Vm.ESm) => y.ok ∧ ∀ j u, y.cells[j]? = some u → w.cell? (a.add (i * 3 + j)) = some u) each
    refine ⟨some a, len, cap, (List.range len).map f, (List.cons.inj h0).1, hl, by unfold maxLen at hm; omega, fun i hi => ?_, by rw [Vm.esV_len]; simp, fun hn => ⟨a, rfl, ?_, fun j u hu => ?_⟩⟩
    · obtain ⟨q, hq, rfl⟩ := List.mem_map.1 hi
      exact (hf q (List.mem_range.1 hq)).1
    · have := cell_lt17 ((hf 0 hn).2 0 _ rfl)
      rwa [block_of_add] at this
    · have hj := (List.getElem?_eq_some_iff.1 hu).1
      rw [Vm.esV_len] at hj
      simp at hj
      obtain ⟨q, r, hr5, rfl⟩ : ∃ q r, r < 3 ∧ j = q * 3 + r := ⟨j / 3, j % 3, by omega, by omega⟩
      have hq : q < len := by omega
      refine (hf q hq).2 r u ?_
      have hfl := flat_at Vm.ESm.cells 3 (fun _ => rfl) ((List.range len).map f) q r (f q) (by simp [hq]) hr5
      rw [← hfl]
      exact hu
structure S28 where
  xs : List Ins
  a : Int
  d : Int
  sn : Int
  seed : Int
  id : Int
  ahead : Int
  fuel : Int
  sq : Int
  rg : Nat → Int
  cs : List Int
  ps : List Int
  es : List Vm.ESm
structure S28.ok (y : S28) : Prop where
  x : ∀ i ∈ y.xs, i.ok
  a : 0 ≤ y.a ∧ y.a ≤ 255
  d : 0 ≤ y.d ∧ y.d ≤ 4294967295
  sn : 0 ≤ y.sn ∧ y.sn ≤ 255
  id : 0 ≤ y.id ∧ y.id ≤ 255
  ahead : 0 ≤ y.ahead ∧ y.ahead ≤ 255
  fuel : 0 ≤ y.fuel ∧ y.fuel ≤ 65535
  sq : 0 ≤ y.sq ∧ y.sq ≤ 65535
  ps : ∀ q, 0 ≤ y.ps.getD q 0 ∧ y.ps.getD q 0 ≤ 255
  es : ∀ e ∈ y.es, e.ok
def S28.cells (y : S28) (A B C D : Value) : Array Value := #[A, .int .u8 y.a, .int .i64 (y.rg 0), .int .i64 (y.rg 1), .int .i64 (y.rg 2), .int .i64 (y.rg 3), .int .i64 (y.rg 4), .int .i64 (y.rg 5), .int .i64 (y.rg 6), .int .i64 (y.rg 7), B, .int .u32 y.d, .int .u8 y.sn, .int .u64 y.seed, .int .u8 y.id, .int .u8 y.ahead, .int .u16 y.fuel, .int .u16 y.sq, C, D]
structure L28 where
  A : Option Addr
  n1 : Nat
  p1 : Nat
  B : Option Addr
  n2 : Nat
  p2 : Nat
  C : Option Addr
  n3 : Nat
  p3 : Nat
  D : Option Addr
  n4 : Nat
  p4 : Nat
structure L28.ok (z : L28) (w : World) (y : S28) : Prop where
  h1 : z.n1 ≤ z.p1
  c1 : z.p1 ≤ 9223372036854775807
  h2 : z.n2 ≤ z.p2
  c2 : z.p2 ≤ 9223372036854775807
  h3 : z.n3 ≤ z.p3
  c3 : z.p3 ≤ 9223372036854775807
  h4 : z.n4 ≤ z.p4
  c4 : z.p4 ≤ 9223372036854775807
  rA : Reads w w.heap.size 5 z.A z.n1 (insV y.xs)
  rB : Reads w w.heap.size 1 z.B z.n2 (int64s y.cs)
  rC : Reads w w.heap.size 1 z.C z.n3 (Vm.u8V y.ps)
  lC : y.ps.length = z.n3
  rD : Reads w w.heap.size 3 z.D z.n4 (Vm.esV y.es)
def L28.v (z : L28) (y : S28) : Value := .agg (y.cells (.slice z.A z.n1 z.p1) (.slice z.B z.n2 z.p2) (.slice z.C z.n3 z.p3) (.slice z.D z.n4 z.p4))
set_option maxRecDepth 100000 in
set_option maxHeartbeats 2000000 in
theorem open_small28 {H : Type} {enc : TypeId × Value → H} {w : World} {b0 : Nat} {r : Reach} {v : Value} {d : DataW H} {p : List MemPlace} (hv : Value.okWide Try.prog w r b0 78 v) (h : DataW.Trod enc Try.prog w 0 (fun _ => true) true 78 v d p) :
    ∃ (y : S28) (z : L28), v = z.v y ∧ y.ok ∧ z.ok w y := by
  obtain ⟨cs, rfl, hsz⟩ := okWide_struct Try.underlying78 hv
  obtain ⟨l⟩ := cs
  have k0 : Try.prog.cellsOf 78 = 20 := by kernel_rfl
  have k1 : Try.prog.cellsOf 5 = 1 := by kernel_rfl
  have k2 : Try.prog.cellsOf 23 = 8 := by kernel_rfl
  have k3 : Try.prog.cellsOf 24 = 1 := by kernel_rfl
  have k4 : Try.prog.cellsOf 25 = 1 := by kernel_rfl
  have k5 : Try.prog.cellsOf 22 = 1 := by kernel_rfl
  have k6 : Try.prog.cellsOf 27 = 12 := by kernel_rfl
  have k7 : Try.prog.cellsOf 51 = 1 := by kernel_rfl
  have k8 : Try.prog.cellsOf 28 = 1 := by kernel_rfl
  have k9 : Try.prog.cellsOf 76 = 1 := by kernel_rfl
  have k10 : Try.prog.cellsOf 2 = 1 := by kernel_rfl
  have k11 : Try.prog.cellsOf 31 = 1 := by kernel_rfl
  match l, hsz.trans k0 with
  | [c0, c1, c2, c3, c4, c5, c6, c7, c8, c9, c10, c11, c12, c13, c14, c15, c16, c17, c18, c19], _ =>
    obtain ⟨fuel, hf⟩ := h
    obtain ⟨xs, n, _, _, _, hlen, hg⟩ := DataW.trod_struct Try.underlying78 hf
    match xs, hlen with
    | [y0, y1, y2, y3, y4, y5, y6, y7, y8], _ =>
      have g0 : DataW.trod enc Try.prog w 0 (fun _ => true) true n 22 [c0] = some y0 := by simpa [Value.cells, k1, k2, k3, k4, k5, k6, k7, k8, k9, k10, k11] using hg 0 _ rfl
      have g1 : DataW.trod enc Try.prog w 0 (fun _ => true) true n 27 [c1, c2, c3, c4, c5, c6, c7, c8, c9, c10, c11, c12] = some y1 := by simpa [Value.cells, k1, k2, k3, k4, k5, k6, k7, k8, k9, k10, k11] using hg 1 _ rfl
      have g2 : DataW.trod enc Try.prog w 0 (fun _ => true) true n 28 [c13] = some y2 := by simpa [Value.cells, k1, k2, k3, k4, k5, k6, k7, k8, k9, k10, k11] using hg 2 _ rfl
      have g3 : DataW.trod enc Try.prog w 0 (fun _ => true) true n 5 [c14] = some y3 := by simpa [Value.cells, k1, k2, k3, k4, k5, k6, k7, k8, k9, k10, k11] using hg 3 _ rfl
      have g4 : DataW.trod enc Try.prog w 0 (fun _ => true) true n 5 [c15] = some y4 := by simpa [Value.cells, k1, k2, k3, k4, k5, k6, k7, k8, k9, k10, k11] using hg 4 _ rfl
      have g5 : DataW.trod enc Try.prog w 0 (fun _ => true) true n 31 [c16] = some y5 := by simpa [Value.cells, k1, k2, k3, k4, k5, k6, k7, k8, k9, k10, k11] using hg 5 _ rfl
      have g6 : DataW.trod enc Try.prog w 0 (fun _ => true) true n 31 [c17] = some y6 := by simpa [Value.cells, k1, k2, k3, k4, k5, k6, k7, k8, k9, k10, k11] using hg 6 _ rfl
      have g7 : DataW.trod enc Try.prog w 0 (fun _ => true) true n 51 [c18] = some y7 := by simpa [Value.cells, k1, k2, k3, k4, k5, k6, k7, k8, k9, k10, k11] using hg 7 _ rfl
      have g8 : DataW.trod enc Try.prog w 0 (fun _ => true) true n 76 [c19] = some y8 := by simpa [Value.cells, k1, k2, k3, k4, k5, k6, k7, k8, k9, k10, k11] using hg 8 _ rfl
      obtain ⟨seed, rfl, b2⟩ := trod_int_at17 Try.underlying28 g2
      obtain ⟨id, rfl, b3⟩ := trod_int_at17 Try.underlying5 g3
      obtain ⟨ahead, rfl, b4⟩ := trod_int_at17 Try.underlying5 g4
      obtain ⟨fl, rfl, b5⟩ := trod_int_at17 Try.underlying31 g5
      obtain ⟨sq, rfl, b6⟩ := trod_int_at17 Try.underlying31 g6
      obtain ⟨A, l, c, zs, rfl, e1, e2, e3, e4⟩ := open_small17s g0
      obtain ⟨P, l3, c3', ps, rfl, p1, p2, p3, p4, p5⟩ := open_bytes19 g7
      obtain ⟨Q, l4, c4', es, rfl, q1, q2, q3, q4⟩ := open_events28 g8
      obtain ⟨us, n1, _, _, _, ulen, hu⟩ := DataW.trod_struct Try.underlying27 g1
      match us, ulen with
      | [u0, u1, u2, u3, u4], _ =>
        have x0 : DataW.trod enc Try.prog w 0 (fun _ => true) true n1 5 [c1] = some u0 := by simpa [Value.cells, k1, k2, k3, k4, k5, k6, k7, k8, k9, k10, k11] using hu 0 _ rfl
        have x1 : DataW.trod enc Try.prog w 0 (fun _ => true) true n1 23 [c2, c3, c4, c5, c6, c7, c8, c9] = some u1 := by simpa [Value.cells, k1, k2, k3, k4, k5, k6, k7, k8, k9, k10, k11] using hu 1 _ rfl
        have x2 : DataW.trod enc Try.prog w 0 (fun _ => true) true n1 24 [c10] = some u2 := by simpa [Value.cells, k1, k2, k3, k4, k5, k6, k7, k8, k9, k10, k11] using hu 2 _ rfl
        have x3 : DataW.trod enc Try.prog w 0 (fun _ => true) true n1 25 [c11] = some u3 := by simpa [Value.cells, k1, k2, k3, k4, k5, k6, k7, k8, k9, k10, k11] using hu 3 _ rfl
        have x4 : DataW.trod enc Try.prog w 0 (fun _ => true) true n1 5 [c12] = some u4 := by simpa [Value.cells, k1, k2, k3, k4, k5, k6, k7, k8, k9, k10, k11] using hu 4 _ rfl
        obtain ⟨a0, rfl, d0⟩ := trod_int_at17 Try.underlying5 x0
        obtain ⟨a3, rfl, d3⟩ := trod_int_at17 Try.underlying25 x3
        obtain ⟨a4, rfl, d4⟩ := trod_int_at17 Try.underlying5 x4
        obtain ⟨B, l2, c2', ys, rfl, f1, f2, f3⟩ := open_words19 x2
        obtain ⟨ts, k, _, _, _, tlen, ht⟩ := DataW.trod_array Try.underlying23 x1
        match ts, tlen with
        | [t0, t1, t2, t3, t4, t5, t6, t7], _ =>
          have v0 : DataW.trod enc Try.prog w 0 (fun _ => true) true k 2 [c2] = some t0 := by simpa [k10] using ht 0 (by decide)
          obtain ⟨r0, rfl, s0⟩ := trod_int_at17 Try.underlying2 v0
          have v1 : DataW.trod enc Try.prog w 0 (fun _ => true) true k 2 [c3] = some t1 := by simpa [k10] using ht 1 (by decide)
          obtain ⟨r1, rfl, s1⟩ := trod_int_at17 Try.underlying2 v1
          have v2 : DataW.trod enc Try.prog w 0 (fun _ => true) true k 2 [c4] = some t2 := by simpa [k10] using ht 2 (by decide)
          obtain ⟨r2, rfl, s2⟩ := trod_int_at17 Try.underlying2 v2
          have v3 : DataW.trod enc Try.prog w 0 (fun _ => true) true k 2 [c5] = some t3 := by simpa [k10] using ht 3 (by decide)
          obtain ⟨r3, rfl, s3⟩ := trod_int_at17 Try.underlying2 v3
          have v4 : DataW.trod enc Try.prog w 0 (fun _ => true) true k 2 [c6] = some t4 := by simpa [k10] using ht 4 (by decide)
          obtain ⟨r4, rfl, s4⟩ := trod_int_at17 Try.underlying2 v4
          have v5 : DataW.trod enc Try.prog w 0 (fun _ => true) true k 2 [c7] = some t5 := by simpa [k10] using ht 5 (by decide)
          obtain ⟨r5, rfl, s5⟩ := trod_int_at17 Try.underlying2 v5
          have v6 : DataW.trod enc Try.prog w 0 (fun _ => true) true k 2 [c8] = some t6 := by simpa [k10] using ht 6 (by decide)
          obtain ⟨r6, rfl, s6⟩ := trod_int_at17 Try.underlying2 v6
          have v7 : DataW.trod enc Try.prog w 0 (fun _ => true) true k 2 [c9] = some t7 := by simpa [k10] using ht 7 (by decide)
          obtain ⟨r7, rfl, s7⟩ := trod_int_at17 Try.underlying2 v7
          simp [Lit.wf, IntKind.min, IntKind.max, IntKind.signed, IntKind.bits] at b3 b4 b5 b6 d0 d3 d4
          exact ⟨⟨zs, a0, a3, a4, seed, id, ahead, fl, sq, fun j => match j with | 0 => r0 | 1 => r1 | 2 => r2 | 3 => r3 | 4 => r4 | 5 => r5 | 6 => r6 | _ => r7, ys, ps, es⟩, ⟨A, l, c, B, l2, c2', P, l3, c3', Q, l4, c4'⟩, rfl, ⟨e3, d0, d3, d4, b3, b4, b5, b6, p3, q3⟩, ⟨e1, e2, f1, f2, p1, p2, q1, q2, e4, f3, p4, p5, q4⟩⟩
namespace Vm
theorem den_s28 {β : Env} (y : S28) (p1 p2 p3 p4 : Nat) : (SV.agg [.sl 1 2 [] 5 0 y.xs.length (some p1), .agg [.int .u8 y.a, .arr 8 1 (fun q => .int .i64 (y.rg q)), .sl 3 4 [] 1 0 y.cs.length (some p2), .int .u32 y.d, .int .u8 y.sn], .int .u64 y.seed, .int .u8 y.id, .int .u8 y.ahead, .int .u16 y.fuel, .int .u16 y.sq, .sl 5 6 [] 1 0 y.ps.length (some p3), .sl 7 8 [] 3 0 y.es.length (some p4)]).den β = .agg (y.cells ((Vm.SV.sl 1 2 [] 5 0 y.xs.length (some p1)).den β) ((Vm.SV.sl 3 4 [] 1 0 y.cs.length (some p2)).den β) ((Vm.SV.sl 5 6 [] 1 0 y.ps.length (some p3)).den β) ((Vm.SV.sl 7 8 [] 3 0 y.es.length (some p4)).den β)) := by
  rw [den_agg rfl, cl_agg]
  have h8 : (SV.arr 8 1 (fun q => .int .i64 (y.rg q))).cl β = int64s (ls iOf 8 (fun q => .int .i64 (y.rg q))) := by rw [cl_arr', elems_i64 (fun q _ => rfl)]
  simp only [clL_cons, clL_nil, cl_agg, h8]
  rfl
end Vm
theorem mem28 (y : S28) (z : L28) (W : World) (hz : z.ok W y) :
    ∃ β, Vm.Rep W (fun _ => False) β (Vm.hp [.gone, .gone, .ro (.arr y.xs.length 5 (Vm.prS y.xs)), .gone, .ro (.arr y.cs.length 1 (Vm.i64S y.cs)), .gone, .ro (.arr y.ps.length 1 (Vm.u8S y.ps)), .gone, .ro (.arr y.es.length 3 (Vm.esS y.es))]) W ∧ (Vm.SV.agg [.sl 1 2 [] 5 0 y.xs.length (some z.p1), .agg [.int .u8 y.a, .arr 8 1 (fun q => .int .i64 (y.rg q)), .sl 3 4 [] 1 0 y.cs.length (some z.p2), .int .u32 y.d, .int .u8 y.sn], .int .u64 y.seed, .int .u8 y.id, .int .u8 y.ahead, .int .u16 y.fuel, .int .u16 y.sq, .sl 5 6 [] 1 0 y.ps.length (some z.p3), .sl 7 8 [] 3 0 y.es.length (some z.p4)]).den β = z.v y := by
  have hl1 := hz.rA.ins_len
  have hl2 := hz.rB.i64_len
  have hl3 := hz.lC
  have hl4 := es_len hz.rD
  have h1 := hz.h1
  have h2 := hz.h2
  have h3 := hz.h3
  have h4 := hz.h4
  obtain ⟨A, n1, p1, B, n2, p2, C, n3, p3, D, n4, p4⟩ := z
  dsimp only at hl1 hl2 hl3 hl4 h1 h2 h3 h4
  subst hl1 hl2 hl3 hl4
  obtain ⟨z, hzz⟩ : ∃ z : L28, z = ⟨A, y.xs.length, p1, B, y.cs.length, p2, C, y.ps.length, p3, D, y.es.length, p4⟩ := ⟨_, rfl⟩
  rw [← hzz] at hz ⊢
  have e1 : z.n1 = y.xs.length := by rw [hzz]
  have e2 : z.n2 = y.cs.length := by rw [hzz]
  have e3 : z.n3 = y.ps.length := by rw [hzz]
  have e4 : z.n4 = y.es.length := by rw [hzz]
  have h1 := hz.h1
  have h2 := hz.h2
  have h3 := hz.h3
  have h4 := hz.h4
  have rA := hz.rA
  have rB := hz.rB
  have rC := hz.rC
  have rD := hz.rD
  rw [e1] at h1 rA
  rw [e2] at h2 rB
  rw [e3] at h3 rC
  rw [e4] at h4 rD
  obtain ⟨β1, a1, R1, d1⟩ := (Vm.start W).handed (A := z.A) (n := y.xs.length) (cap := z.p1) (k := 5) (f := Vm.prS y.xs) 1 rfl (by rw [Vm.elems_prS]; exact rA) h1 Vm.prS_stable (by omega)
  obtain ⟨β2, a2, R2, d2⟩ := R1.handed (A := z.B) (n := y.cs.length) (cap := z.p2) (k := 1) (f := Vm.i64S y.cs) 3 rfl (by rw [Vm.elems_i64S]; exact rB) h2 Vm.i64S_stable (by omega)
  obtain ⟨β3, a3, R3, d3⟩ := R2.handed (A := z.C) (n := y.ps.length) (cap := z.p3) (k := 1) (f := Vm.u8S y.ps) 5 rfl (by rw [Vm.elems_u8S]; exact rC) h3 Vm.u8S_stable (by omega)
  obtain ⟨β4, a4, R4, d4⟩ := R3.handed (A := z.D) (n := y.es.length) (cap := z.p4) (k := 3) (f := Vm.esS y.es) 7 rfl (by rw [Vm.elems_esS]; exact rD) h4 Vm.esS_stable (by omega)
  have d1_1 : (Vm.SV.sl 1 2 [] 5 0 y.xs.length (some z.p1)).den β2 = .slice z.A y.xs.length z.p1 := by
    rw [← d1]
    exact (Vm.Stable.den (h := Vm.hp [.gone, .gone, .ro (.arr y.xs.length 5 (Vm.prS y.xs))]) a2 (by simp [Vm.Stable, Vm.hp, Vm.HB.born])).symm
  have d1_2 : (Vm.SV.sl 1 2 [] 5 0 y.xs.length (some z.p1)).den β3 = .slice z.A y.xs.length z.p1 := by
    rw [← d1_1]
    exact (Vm.Stable.den (h := Vm.hp [.gone, .gone, .ro (.arr y.xs.length 5 (Vm.prS y.xs)), .gone, .ro (.arr y.cs.length 1 (Vm.i64S y.cs))]) a3 (by simp [Vm.Stable, Vm.hp, Vm.HB.born])).symm
  have d1_3 : (Vm.SV.sl 1 2 [] 5 0 y.xs.length (some z.p1)).den β4 = .slice z.A y.xs.length z.p1 := by
    rw [← d1_2]
    exact (Vm.Stable.den (h := Vm.hp [.gone, .gone, .ro (.arr y.xs.length 5 (Vm.prS y.xs)), .gone, .ro (.arr y.cs.length 1 (Vm.i64S y.cs)), .gone, .ro (.arr y.ps.length 1 (Vm.u8S y.ps))]) a4 (by simp [Vm.Stable, Vm.hp, Vm.HB.born])).symm
  have f1 := d1_3
  have d2_2 : (Vm.SV.sl 3 4 [] 1 0 y.cs.length (some z.p2)).den β3 = .slice z.B y.cs.length z.p2 := by
    rw [← d2]
    exact (Vm.Stable.den (h := Vm.hp [.gone, .gone, .ro (.arr y.xs.length 5 (Vm.prS y.xs)), .gone, .ro (.arr y.cs.length 1 (Vm.i64S y.cs))]) a3 (by simp [Vm.Stable, Vm.hp, Vm.HB.born])).symm
  have d2_3 : (Vm.SV.sl 3 4 [] 1 0 y.cs.length (some z.p2)).den β4 = .slice z.B y.cs.length z.p2 := by
    rw [← d2_2]
    exact (Vm.Stable.den (h := Vm.hp [.gone, .gone, .ro (.arr y.xs.length 5 (Vm.prS y.xs)), .gone, .ro (.arr y.cs.length 1 (Vm.i64S y.cs)), .gone, .ro (.arr y.ps.length 1 (Vm.u8S y.ps))]) a4 (by simp [Vm.Stable, Vm.hp, Vm.HB.born])).symm
  have f2 := d2_3
  have d3_3 : (Vm.SV.sl 5 6 [] 1 0 y.ps.length (some z.p3)).den β4 = .slice z.C y.ps.length z.p3 := by
    rw [← d3]
    exact (Vm.Stable.den (h := Vm.hp [.gone, .gone, .ro (.arr y.xs.length 5 (Vm.prS y.xs)), .gone, .ro (.arr y.cs.length 1 (Vm.i64S y.cs)), .gone, .ro (.arr y.ps.length 1 (Vm.u8S y.ps))]) a4 (by simp [Vm.Stable, Vm.hp, Vm.HB.born])).symm
  have f3 := d3_3
  have f4 := d4
  refine ⟨β4, R4, ?_⟩
  rw [Vm.den_s28 y z.p1 z.p2 z.p3 z.p4, f1, f2, f3, f4]
  unfold L28.v
  rw [e1, e2, e3, e4]
end Go.Proofs.Ytjliakjbdcplcaa
end

section
namespace Go.Proofs.Ytjliakjbdcplcaa.Vm
open Go.RowKit
attribute [local push_cast] runR opG gtmp gval gus opX tmpsOf tm tmO tmP restr look look2 tab tys zs ets eqB eqBL allB numOf ieq Int.cast_ofNat_Int Int.ofNat_zero beq_true beq_false frameOf ev evL ofV opV loadV noW pushF wrsL setH allBorn allGone HB.born HB.isGone HB.val SV.plain dstOk hp nav fitsT SV.size sizeL SV.isAgg TK.size TK.agg bin binE binN binI arN arI cmpN cmpI keq kn narrow callV storeV setp fillV buildV buildSliceV makeV sliceV appendV appendFV slice3V copyV List.isEmpty_nil srcV evO asN ite_t ite_f ite_bool ite_int ite_nat maxV v_beq v_ble v_blt cond_true cond_false List.getElem?_cons_zero List.getElem?_cons_succ List.getD_cons_zero List.getD_cons_succ List.getD_nil List.length_cons List.length_nil List.take_succ_cons List.take_zero List.set_cons_zero List.set_cons_succ List.cons_append List.nil_append List.append_assoc List.replicate_succ List.replicate_zero Nat.zero_add Nat.add_zero decide_true decide_false Bool.true_and Bool.and_true Bool.false_and Bool.and_false Bool.true_or Bool.or_true Bool.false_or Bool.or_false beq_self_eq_true Bool.or_self Nat.lt_irrefl Nat.not_lt_zero Nat.le_refl Option.getD_some Option.getD_none BEq.rfl Bool.not_true Bool.not_false Bool.cond_true_left Bool.cond_false_right prS sndsS i64S nav_ins nav_ins0 nav_ins1 nav_ins2 nav_ins3 nav_ins4 nav_snd nav_snd0 nav_snd1 nav_snd2 isIns_insS insOf_insS isSnd_sndS sndOf_sndS isI_int isI_nat iOf
set_option linter.unusedVariables false
set_option linter.unusedSimpArgs false
set_option maxRecDepth 100000
set_option maxHeartbeats 4000000
def pcR (id dr sq : Int) (n1 n2 n3 i c q : Nat) : SV := .agg [.int .i64 id, .sl i i [] 5 0 n1 none, .sl c c [] 1 0 n2 none, .int .i64 dr, .int .i64 sq, .sl q q [] 1 0 n3 none]
structure PcI where
  id : Int
  dr : Int
  sq : Int
  n1 : Nat
  n2 : Nat
  n3 : Nat
  i : Nat
  c : Nat
  q : Nat
def PcI.v (y : PcI) : SV := pcR y.id y.dr y.sq y.n1 y.n2 y.n3 y.i y.c y.q
def PcI.at_ (y : PcI) (i c q : Nat) : SV := pcR y.id y.dr y.sq y.n1 y.n2 y.n3 i c q
end Go.Proofs.Ytjliakjbdcplcaa.Vm
end

section
namespace Go.Proofs.Ytjliakjbdcplcaa.Vm
open Go.RowKit
set_option linter.unusedVariables false
set_option linter.unusedSimpArgs false
theorem mPorts_no {l : List Int} (h : ∀ x ∈ l, 0 ≤ x) : (mPorts l).any noPort = false := by
  rw [List.any_eq_false]
  intro x hx
  obtain ⟨y, hy, rfl⟩ := List.mem_map.1 hx
  have a := Int.tmod_nonneg 17 (h y hy)
  have b := Int.tmod_lt_of_pos y (show (0 : Int) < 17 by decide)
  unfold noPort isB
  by_cases h0 : y.tmod 17 = 0
  · simp [h0]
  · have e : decide (1 ≤ y.tmod 17 ∧ y.tmod 17 ≤ 16) = true := decide_eq_true (by omega)
    rw [e]; simp
theorem made28_proc (xs : List Ins) {id ahead fuel sq d seed : Int} {cs ps : List Int} (hid : 0 ≤ id) (hah : 0 ≤ ahead) (hf : 0 ≤ fuel) (hsq : 0 ≤ sq ∧ sq ≤ 65535) (hd : 0 ≤ d ∧ d ≤ 4294967295) (hps : ∀ q, 0 ≤ ps.getD q 0 ∧ ps.getD q 0 ≤ 255) :
    procE ⟨seed, 1 + ahead.tmod 5, fuel.tmod 300⟩ ⟨1 + id.tmod 16, made14 xs, cs.take 12, d, sq, mPorts (ps.take 16)⟩ = 0 := by
  have y0 := Int.tmod_nonneg 16 hid
  have y1 := Int.tmod_lt_of_pos id (show (0 : Int) < 16 by decide)
  have y2 := Int.tmod_nonneg 5 hah
  have y3 := Int.tmod_lt_of_pos ahead (show (0 : Int) < 5 by decide)
  have y4 := Int.tmod_nonneg 300 hf
  have y5 := Int.tmod_lt_of_pos fuel (show (0 : Int) < 300 by decide)
  have hr : (⟨seed, 1 + ahead.tmod 5, fuel.tmod 300⟩ : Rul).rightB = true := decide_eq_true (by dsimp only; omega)
  have hp : (⟨1 + id.tmod 16, made14 xs, cs.take 12, d, sq, mPorts (ps.take 16)⟩ : Prc).rightB = true := by
    refine rightB_iff.2 ⟨made14_right xs, by dsimp only; omega, by rw [List.length_take]; omega, hd.1, by dsimp only; omega, hsq.1, by dsimp only; omega, by simp [mPorts]; omega, mPorts_no fun x hx => ?_⟩
    obtain ⟨i, hi, rfl⟩ := List.mem_iff_getElem.1 (List.mem_of_mem_take hx)
    have := (hps i).1
    rwa [List.getD_eq_getElem?_getD, List.getElem?_eq_getElem hi] at this
  unfold procE
  rw [if_neg (by rw [hr]; exact Bool.noConfusion), if_neg (by rw [hp]; exact Bool.noConfusion)]
theorem oneE_of {r : Rul} {p : Prc} {e : Evt} (h : procE r p = 0) (ht : takesB p e = true) : oneE r p e = hE r p e := by
  unfold oneE
  rw [if_neg (fun g => g h), if_neg (by rw [ht]; exact Bool.noConfusion)]
end Go.Proofs.Ytjliakjbdcplcaa.Vm
end

section
namespace Go.Proofs.Ytjliakjbdcplcaa.Vm
open Go.RowKit
set_option linter.unusedVariables false
set_option linter.unusedSimpArgs false
theorem badAt_congr {p : Prc} {l m : List Evt} {q : Nat} (h : m.getD q ⟨0, 0, 0, 0, 0⟩ = l.getD q ⟨0, 0, 0, 0, 0⟩) (h' : 0 < q → m.getD (q - 1) ⟨0, 0, 0, 0, 0⟩ = l.getD (q - 1) ⟨0, 0, 0, 0, 0⟩) : badAt p m q = badAt p l q := by
  unfold badAt
  rw [h]
  by_cases h0 : 0 < q
  · rw [h' h0]
  · simp [h0]
end Go.Proofs.Ytjliakjbdcplcaa.Vm
end

section
namespace Go.Proofs.Ytjliakjbdcplcaa.Vm
open Go.RowKit
attribute [local push_cast] runR opG gtmp gval gus opX tmpsOf tm tmO tmP restr look look2 tab tys zs ets eqB eqBL allB numOf ieq Int.cast_ofNat_Int Int.ofNat_zero beq_true beq_false frameOf ev evL ofV opV loadV noW pushF wrsL setH allBorn allGone HB.born HB.isGone HB.val SV.plain dstOk hp nav fitsT SV.size sizeL SV.isAgg TK.size TK.agg bin binE binN binI arN arI cmpN cmpI keq kn narrow callV storeV setp fillV buildV buildSliceV makeV sliceV appendV appendFV slice3V copyV List.isEmpty_nil srcV evO asN ite_t ite_f ite_bool ite_int ite_nat maxV v_beq v_ble v_blt cond_true cond_false List.getElem?_cons_zero List.getElem?_cons_succ List.getD_cons_zero List.getD_cons_succ List.getD_nil List.length_cons List.length_nil List.take_succ_cons List.take_zero List.set_cons_zero List.set_cons_succ List.cons_append List.nil_append List.append_assoc List.replicate_succ List.replicate_zero Nat.zero_add Nat.add_zero decide_true decide_false Bool.true_and Bool.and_true Bool.false_and Bool.and_false Bool.true_or Bool.or_true Bool.false_or Bool.or_false beq_self_eq_true Bool.or_self Nat.lt_irrefl Nat.not_lt_zero Nat.le_refl Option.getD_some Option.getD_none BEq.rfl Bool.not_true Bool.not_false Bool.cond_true_left Bool.cond_false_right
set_option linter.unusedVariables false
set_option linter.unusedSimpArgs false
set_option maxRecDepth 100000
set_option maxHeartbeats 4000000
theorem smEvt_lit (xs ys : List Evt) (p1 p2 : Nat) (hx : xs.length ≤ 281474976710656) : LitOk Try.prog 88 [.sl 1 2 [] 5 0 xs.length (some p1), .sl 3 4 [] 5 0 ys.length (some p2)] [.gone, .gone, .ro (.arr xs.length 5 (evtsS xs)), .gone, .ro (.arr ys.length 5 (evtsS ys))] (.bool (eqL xs ys)) [.gone] := by
  refine litOkM (fn := Try.f88) 5 26 0 rfl rfl rfl rfl rfl (by simp only [StableL, Stable, hp]; simp [HB.born]) rfl fun w0 M E hro => ?_
  repeat' (first | refine Ctl.h ?_ | ((with_reducible intro hif); first | (focus (cases hif; done)) | (simp only [JH] at hif; try (exfalso; omega)) | (try (exfalso; omega))) | ((first | ((with_reducible apply J22 c1_ok tab_ok); (· rfl)) | ((with_reducible apply J23 fol c1_ok tab_ok); (· rfl)) | with_reducible apply J24); (· exact Vm.b14); (try kernel_rfl); (try exact Vm.b13)) | fail)
  · have hne : xs ≠ ys := fun e => hif (by rw [e])
    apply At.endsRet tab_ok (fn := Try.f88) (rs := [.tmp 4]) Anc.refl hro (Nat.le_of_ble_eq_true rfl) rfl
    · exact Vm.b6
    · exact Vm.b7
    · exact Vm.b8
    · rfl
    · exact Vm.b26
    · exact Vm.b10
    · rw [eqL_false hne]; exact fun β => rfl
    · exact Vm.b26
  · refine WF.loopAt (fun j => j ≤ xs.length ∧ ∀ q, q < j → xs.getD q ⟨0, 0, 0, 0, 0⟩ = ys.getD q ⟨0, 0, 0, 0, 0⟩) (fun j => [(0, .sl 1 2 [] 5 0 xs.length (some p1)), (1, .sl 3 4 [] 5 0 ys.length (some p2)), (12, .nat .i64 xs.length), (13, .nat .i64 j)]) (fun j => [.gone, .gone, .ro (.arr xs.length 5 (evtsS xs)), .gone, .ro (.arr ys.length 5 (evtsS ys))]) (fun j => xs.length - j) 0 ⟨Nat.zero_le _, fun q hq => absurd hq (Nat.not_lt_zero q)⟩ ?_ ?_ rfl ?_ ?_ rfl ?_
    · exact Vm.b11
    · exact Vm.b8
    · exact Vm.b26
    · exact Vm.b26
    have hlen := hif
    rintro j ⟨hj, heq⟩
    repeat' (first | refine Ctl.h ?_ | ((with_reducible intro hif); first | (focus (cases hif; done)) | (simp only [JH] at hif; try (exfalso; omega)) | (try (exfalso; omega))) | ((first | ((with_reducible apply J22 c1_ok tab_ok); (· rfl)) | ((with_reducible apply J23 fol c1_ok tab_ok); (· rfl)) | with_reducible apply J24); (· exact Vm.b78); (try kernel_rfl); (try exact Vm.b15)) | fail)
    · have hne : xs ≠ ys := by rintro rfl; simp at hif
      apply At.endsRet tab_ok (fn := Try.f88) (rs := [.tmp 4]) Anc.refl hro (Nat.le_of_ble_eq_true rfl) rfl
      · exact Vm.b6
      · exact Vm.b7
      · exact Vm.b8
      · rfl
      · exact Vm.b26
      · exact Vm.b10
      · rw [eqL_false hne]; exact fun β => rfl
      · exact Vm.b26
    · have hq : xs.getD j ⟨0, 0, 0, 0, 0⟩ = ys.getD j ⟨0, 0, 0, 0, 0⟩ := evt_ext (of_decide_eq_true hif.1.1) (of_decide_eq_true hif.1.2.1) (of_decide_eq_true hif.1.2.2) (of_decide_eq_true hif.2.1) (of_decide_eq_true hif.2.2)
      refine At.next (j + 1) ?_ ?_ ?_ rfl ?_ ?_ rfl
      · exact Vm.b12
      · exact Vm.b11
      · exact Vm.b8
      · exact Vm.b26
      · exact Vm.b26
    · have hjn : j = xs.length := by omega
      subst hjn
      have he : xs = ys := ext_getD ⟨0, 0, 0, 0, 0⟩ hlen heq
      apply At.endsRet tab_ok (fn := Try.f88) (rs := [.tmp 4]) Anc.refl hro (Nat.le_of_ble_eq_true rfl) rfl
      · exact Vm.b6
      · exact Vm.b7
      · exact Vm.b8
      · rfl
      · exact Vm.b26
      · exact Vm.b10
      · rw [eqL_true he]; exact fun β => rfl
      · exact Vm.b26
def sSmEvt : Spec := fun args h m => match args with
  | [v1, v2] => match srcV h 5 (.tup []) v1, srcV h 5 (.tup []) v2 with
    | some (c1, n1, f1, r1), some (c2, n2, f2, r2) => some (c1 ∧ c2 ∧ (∀ q, q < n1 → isEvt (f1 q) = true) ∧ (∀ q, q < n2 → isEvt (f2 q) = true) ∧ ((ls evtOf n1 f1).length ≤ 281474976710656), .bool (eqL (ls evtOf n1 f1) (ls evtOf n2 f2)), r1 ++ r2, [])
    | _, _ => none
  | _ => none
theorem sSmEvt_ok : CallOk Try.prog 88 sSmEvt := by
  refine ⟨named_spec (by kernel_rfl), fun args h m c v rd wr hs hm hc w0 M β h' w R hrd hwr hst => ?_⟩
  unfold sSmEvt at hs
  split at hs
  · rename_i v1 v2
    split at hs
    · rename_i c1 n1 f1 r1 c2 n2 f2 r2 a1 a2
      simp only [Option.some.injEq, Prod.mk.injEq] at hs
      obtain ⟨rfl, rfl, rfl, rfl⟩ := hs
      obtain ⟨k1, k2, g1, g2, y1⟩ := hc
      obtain ⟨A1, p1, d1, e1, t1⟩ := reads_src R a1 k1 (fun i hi => hrd i (List.mem_append_left _ hi)) (by omega)
      obtain ⟨A2, p2, d2, e2, t2⟩ := reads_src R a2 k2 (fun i hi => hrd i (List.mem_append_right _ hi)) (by omega)
      refine callRo (views := [⟨5, (ls evtOf n1 f1).length, evtsS (ls evtOf n1 f1), A1, p1⟩, ⟨5, (ls evtOf n2 f2).length, evtsS (ls evtOf n2 f2), A2, p2⟩]) (smEvt_lit (ls evtOf n1 f1) (ls evtOf n2 f2) p1 p2 y1) ?_ R hm hwr ?_ ?_ ?_
      · intro x hx
        simp only [List.mem_cons, List.not_mem_nil, or_false] at hx
        rcases hx with rfl | rfl
        · exact viewEvt t1 e1 g1
        · exact viewEvt t2 e2 g2
      · intro β1 hv
        simp only [Vd, ls_length, and_true] at hv
        obtain ⟨z1, z2⟩ := hv
        simp only [denL, aggDen, intDen, natDen, boolDen, ls_length, z1, z2, d1, d2]
      · exact Vm.b26
      · exact Vm.b26
    · cases hs
  · cases hs
end Go.Proofs.Ytjliakjbdcplcaa.Vm
end

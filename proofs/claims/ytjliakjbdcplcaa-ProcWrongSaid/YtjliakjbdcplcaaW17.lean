import Derived.Test.YtjliakjbdcplcaaW6
import Derived.Test.YtjliakjbdcplcaaW7
import Derived.Test.YtjliakjbdcplcaaW11
import Derived.Test.YtjliakjbdcplcaaW16
section
namespace Go.Proofs.Ytjliakjbdcplcaa.Vm
theorem b122 {P : Prop} (h : P := by (repeat' (first | exact trivial | exact rfl | assumption | apply Stable.ite | apply And.intro | intro _ | (simp only [Stable, StableL, pcR, dnB, DnI.at_, dnS, dnR, pcS, i64S, prS, insS, sndsS, sndS, evtsS, evtS, prO, i64O, inO, evO_, cB, sB, u8S, esS, esA, HB.stable]; done)))) : P := h
theorem b123 {P : Prop} (h : P := by (repeat' (first | exact trivial | exact .inl rfl | exact .inr (.same _) | exact .inr .loose | exact .inr (.arr (by assumption)) | apply And.intro | (rw [hE1l]; exact .inr (less_setE _ _ hE1L rfl (fun β => rfl)))))) : P := h
theorem b124 {P : Prop} (h : P := by (first | exact True.intro | ((try simp only [JS, Nat.zero_add, implies_true, forall_const, shaped, shapedL, kndOf, ls_i64S', ls_i64S, ls_prS, ls_prS', ls_u8S, ls_u8S', ls_esS, ls_esS', ls_evtsS', ls_evtsS, ls_evtsS2, ls_length, evtOf_evtS, prc_eta, rul_eta, iOf, capB]); (repeat' (first | exact True.intro | (exact fun _ h => (List.not_mem_nil h).elim) | assumption | omega | apply And.intro | rfl | decide | intro _)); done) | ((try simp only [JS, implies_true, forall_const, shaped, shapedL, kndOf]); (repeat' (first | assumption | exact True.intro | omega | apply And.intro)); done))) : P := h
theorem b125 {P : Prop} (h : P := by (first | exact True.intro | ((try simp only [JS, Nat.zero_add, implies_true, forall_const, shaped, shapedL, kndOf, ls_i64S', ls_i64S, ls_prS, ls_prS', ls_u8S, ls_u8S', ls_esS, ls_esS', ls_evtsS', ls_evtsS, ls_evtsS2, ls_length, evtOf_evtS, prc_eta, rul_eta, iOf, capB, hF, hO]); (repeat' (first | exact True.intro | (exact fun _ h => (List.not_mem_nil h).elim) | assumption | omega | apply And.intro | rfl | decide | intro _)); done) | ((try simp only [JS, implies_true, forall_const, shaped, shapedL, kndOf]); (repeat' (first | assumption | exact True.intro | omega | apply And.intro)); done))) : P := h
theorem b126 {P : Prop} (h : P := by (simp only [push_cast, ↓JP, Nat.reduceAdd, Nat.reduceEqDiff, Nat.reduceLT, Nat.reduceMul, Nat.reduceLeDiff, reduceCtorEq, reduceIte, ↓JK, cWrC, ↓evtS_sz, ↓evtS_ag, ↓evtS_pl, Nat.sub_zero, hEl, hPP, hCC, hQQ, hID, hAH, hFU, hL, w, hKI, hF, hO, hD]; rfl)) : P := h
theorem b127 {P : Prop} (h : P := by (simp only [push_cast, ↓JP, Nat.reduceAdd, Nat.reduceEqDiff, Nat.reduceLT, Nat.reduceMul, Nat.reduceLeDiff, reduceCtorEq, reduceIte, ↓JK, cWrB, ↓evtS_sz, ↓evtS_ag, ↓evtS_pl, Nat.sub_zero, hEl, hPP, hCC, hQQ, hID, hAH, hFU, hL, w, hKI, Int.toNat_natCast]; rfl)) : P := h
theorem b128 {P : Prop} (h : P := by (first | exact True.intro | ((try simp only [JS, Nat.zero_add, implies_true, forall_const, shaped, shapedL, kndOf, ls_i64S', ls_i64S, ls_prS, ls_prS', ls_u8S, ls_u8S', ls_esS, ls_esS', ls_evtsS', ls_evtsS, ls_evtsS2, ls_length, evtOf_evtS, prc_eta, rul_eta, iOf, capB, hB2]); (repeat' (first | exact True.intro | (exact fun _ h => (List.not_mem_nil h).elim) | assumption | omega | apply And.intro | rfl | decide | intro _)); done) | ((try simp only [JS, implies_true, forall_const, shaped, shapedL, kndOf]); (repeat' (first | assumption | exact True.intro | omega | apply And.intro)); done))) : P := h
theorem b129 {P : Prop} (h : P := by (simp only [push_cast, ↓JP, Nat.reduceAdd, Nat.reduceEqDiff, Nat.reduceLT, Nat.reduceMul, Nat.reduceLeDiff, reduceCtorEq, reduceIte, ↓JK, cWrB, ↓evtS_sz, ↓evtS_ag, ↓evtS_pl, Nat.sub_zero, hEl, hPP, hCC, hQQ, hID, hAH, hFU, hL, w, hKI, hB2, hD, hE0]; rfl)) : P := h
end Go.Proofs.Ytjliakjbdcplcaa.Vm
end
section
namespace Go.Proofs.Ytjliakjbdcplcaa.Vm
open Go.RowKit
attribute [local push_cast] runR opG gtmp gval gus opX tmpsOf tm tmO tmP restr look look2 tab tys zs ets eqB eqBL allB numOf ieq Int.cast_ofNat_Int Int.ofNat_zero beq_true beq_false frameOf ev evL ofV opV loadV noW pushF wrsL setH allBorn allGone HB.born HB.isGone HB.val SV.plain dstOk hp nav fitsT SV.size sizeL SV.isAgg TK.size TK.agg bin binE binN binI arN arI cmpN cmpI keq kn narrow callV storeV setp fillV buildV buildSliceV makeV sliceV appendV appendFV slice3V copyV List.isEmpty_nil srcV evO asN ite_t ite_f ite_bool ite_int ite_nat maxV v_beq v_ble v_blt cond_true cond_false List.getElem?_cons_zero List.getElem?_cons_succ List.getD_cons_zero List.getD_cons_succ List.getD_nil List.length_cons List.length_nil List.take_succ_cons List.take_zero List.set_cons_zero List.set_cons_succ List.cons_append List.nil_append List.append_assoc List.replicate_succ List.replicate_zero Nat.zero_add Nat.add_zero decide_true decide_false Bool.true_and Bool.and_true Bool.false_and Bool.and_false Bool.true_or Bool.or_true Bool.false_or Bool.or_false beq_self_eq_true Bool.or_self Nat.lt_irrefl Nat.not_lt_zero Nat.le_refl Option.getD_some Option.getD_none BEq.rfl Bool.not_true Bool.not_false Bool.cond_true_left Bool.cond_false_right prS sndsS i64S nav_ins nav_ins0 nav_ins1 nav_ins2 nav_ins3 nav_ins4 nav_snd nav_snd0 nav_snd1 nav_snd2 isIns_insS insOf_insS isSnd_sndS sndOf_sndS isI_int isI_nat iOf JM JE JB prc_eta rul_eta dnB dnS DnI.at_ DnI.v dnR dn0 evO_ pcS prO i64O inO sAw28 sMd28 sOneB sAllC sAllB sPCheck sEq28 evtsS nav_evt nav_evt0 nav_evt1 nav_evt2 evm_ev isEvt_evtS evtOf_evtS inR inN evtOf_agg isEvt_agg nat_zero_int ls_zero ls_one ls_u8S ls_u8S' ls_esS ls_esS' ls_evtsS ls_evtsS' ls_evtsS2
set_option linter.unusedVariables false
set_option linter.unusedSimpArgs false
set_option maxRecDepth 100000
set_option maxHeartbeats 4000000
theorem less_cutI {t n : Nat} {σ : Nat → Nat} {b : Bool} (S : List Int) {S2 : List Int} {x : Int} (hn : n ≤ S.length) (hS : S.take n ++ [x] = S2) (hl : n + 1 = S2.length) {g : Nat → SV} {xv z : SV} (hg : g = fun q => SV.ite (decide (q < n)) (i64S S q) ([xv].getD (q - n) z)) (hx : ∀ β, xv.cl β = [.int .i64 x]) :
    Less (.own t (.arr S2.length 1 g) b) ((HB.own t (.arr S2.length 1 (i64S S2)) b).ren σ) := by
  have e : (HB.own t (.arr S2.length 1 (i64S S2)) b).ren σ = .own t (.arr S2.length 1 (i64S S2)) b := rfl
  rw [e]
  refine .val (fun β => arrCl fun q hq => ?_) (fun n1 k1 f1 e => by injection e with e1 e2 e3; subst e1 e2; exact ⟨_, rfl⟩) (fun n1 k1 f1 e => by injection e with e1 e2 e3; subst e1 e2; exact ⟨_, rfl⟩)
  subst hg hS
  have ht : (S.take n).length = n := by rw [List.length_take]; omega
  dsimp only
  rw [ite_eq]
  by_cases h : q < n
  · simp only [h, decide_true, cond_true]
    unfold i64S
    rw [List.getD_eq_getElem?_getD, List.getD_eq_getElem?_getD, List.getElem?_append_left (by omega), List.getElem?_take_of_lt h]
  · have hq' : q = n := by omega
    subst hq'
    simp only [h, decide_false, cond_false, Nat.sub_self, List.getD_cons_zero, hx]
    unfold i64S
    rw [List.getD_eq_getElem?_getD, List.getElem?_append_right (by omega), ht, Nat.sub_self]; rfl
theorem less_twoE {t : Nat} {σ : Nat → Nat} {b : Bool} {E E2 : List Evt} (k : Nat) (hk : k < E.length) (hE : E.take (k + 1) ++ E.drop k = E2) {g : Nat → SV} (hg : g = fun q => SV.ite (decide (q < k + 1)) (evtS (E.getD q ⟨0, 0, 0, 0, 0⟩)) (evtS (E.getD (k + (q - (k + 1))) ⟨0, 0, 0, 0, 0⟩))) :
    Less (.own t (.arr E2.length 5 g) b) ((HB.own t (.arr E2.length 5 (evtsS E2)) b).ren σ) := by
  have e : (HB.own t (.arr E2.length 5 (evtsS E2)) b).ren σ = .own t (.arr E2.length 5 (evtsS E2)) b := by
    simp only [HB.ren, SV.ren]; rw [evtsS_ren]
  rw [e]
  refine .val (fun β => arrCl fun q hq => ?_) (fun n1 k1 f1 e => by injection e with e1 e2 e3; subst e1 e2; exact ⟨_, rfl⟩) (fun n1 k1 f1 e => by injection e with e1 e2 e3; subst e1 e2; exact ⟨_, rfl⟩)
  subst hg hE
  have ht : (E.take (k + 1)).length = k + 1 := by rw [List.length_take]; omega
  dsimp only
  rw [ite_eq]
  unfold evtsS
  by_cases h : q < k + 1
  · simp only [h, decide_true, cond_true]
    rw [getD_app_lt (by omega), List.getD_eq_getElem?_getD, List.getD_eq_getElem?_getD, List.getElem?_take_of_lt h]
  · simp only [h, decide_false, cond_false]
    rw [List.getD_eq_getElem?_getD, List.getD_eq_getElem?_getD, List.getElem?_append_right (by omega), ht, List.getElem?_drop]
theorem less_setE {t : Nat} {σ : Nat → Nat} {b : Bool} {E E1 : List Evt} (k : Nat) (x : Evt) (hE : E.set k x = E1) {g : Nat → SV} {xv : SV} (hg : g = fun q => SV.ite (decide (q = k)) xv (evtS (E.getD q ⟨0, 0, 0, 0, 0⟩))) (hx : ∀ β, xv.cl β = x.cells) :
    Less (.own t (.arr E.length 5 g) b) ((HB.own t (.arr E.length 5 (evtsS E1)) b).ren σ) := by
  subst hE
  have e : (HB.own t (.arr E.length 5 (evtsS (E.set k x))) b).ren σ = .own t (.arr E.length 5 (evtsS (E.set k x))) b := by
    simp only [HB.ren, SV.ren]; rw [evtsS_ren]
  rw [e]
  refine .val (fun β => arrCl fun q hq => ?_) (fun n1 k1 f1 e => by injection e with e1 e2 e3; subst e1 e2; exact ⟨_, rfl⟩) (fun n1 k1 f1 e => by injection e with e1 e2 e3; subst e1 e2; exact ⟨_, rfl⟩)
  subst hg
  dsimp only
  rw [ite_eq]
  unfold evtsS
  by_cases h : q = k
  · subst h
    simp only [decide_true, cond_true, hx]
    rw [set_getD_self hq, isEvt_cl (isEvt_evtS _), evtOf_evtS]
  · simp only [h, decide_false, cond_false]
    rw [set_getD h]
theorem eqD_zero : eqD ⟨0, [], [], 0, 0, []⟩ [] 0 ⟨0, [], [], 0, 0, []⟩ [] 0 = true := by decide
theorem oneE_chk {r : Rul} {p : Prc} {e : Evt} (h : procE r p ≠ 0) : oneE r p e = procE r p := by unfold oneE; rw [if_pos h]
theorem less_consE {t : Nat} {σ : Nat → Nat} {b : Bool} (x : Evt) (L : List Evt) {E : List Evt} (hE : x :: L = E) {g : Nat → SV} {xv z : SV} (hg : g = fun q => SV.ite (decide (q < 1)) ([xv].getD q z) (evtS (L.getD (q - 1) ⟨0, 0, 0, 0, 0⟩))) (hx : ∀ β, xv.cl β = x.cells) :
    Less (.own t (.arr E.length 5 g) b) ((HB.own t (.arr E.length 5 (evtsS E)) b).ren σ) := by
  subst hE
  have e : (HB.own t (.arr (x :: L).length 5 (evtsS (x :: L))) b).ren σ = .own t (.arr (x :: L).length 5 (evtsS (x :: L))) b := by
    simp only [HB.ren, SV.ren]; rw [evtsS_ren]
  rw [e]
  refine .val (fun β => arrCl fun q hq => ?_) (fun n1 k1 f1 e => by injection e with e1 e2 e3; subst e1 e2; exact ⟨_, rfl⟩) (fun n1 k1 f1 e => by injection e with e1 e2 e3; subst e1 e2; exact ⟨_, rfl⟩)
  subst hg
  dsimp only
  rw [ite_eq]
  cases q with
  | zero =>
    simp only [Nat.zero_lt_one, decide_true, cond_true, List.getD_cons_zero, hx]
    show _ = (evtS x).cl β
    rw [isEvt_cl (isEvt_evtS _), evtOf_evtS]
  | succ q =>
    have : ¬ q + 1 < 1 := by omega
    simp only [this, decide_false, cond_false, Nat.add_sub_cancel]
    rfl
def cWrC : FuncId → Option Spec := look2 [(26, sAw28), (27, sMd28), (32, sAllC), (28, sOneB), (35, sPCheck), (33, sEq28)]
theorem cWrC_ok : ∀ f S, cWrC f = some S → CallOk Try.prog f S := allOk_spec ⟨sAw28_ok, sMd28_ok, sAllC_ok, sOneB_ok, sPCheck_ok, sEq28_ok, trivial⟩
def cWrB (i : Nat) : FuncId → Option Spec := look2 [(26, sAw28), (27, sMd28), (32, (sAllB i)), (28, sOneB), (35, sPCheck), (33, sEq28)]
theorem cWrB_ok (i : Nat) : ∀ f S, cWrB i f = some S → CallOk Try.prog f S := allOk_spec ⟨sAw28_ok, sMd28_ok, sAllB_ok i, sOneB_ok, sPCheck_ok, sEq28_ok, trivial⟩
theorem pwrong_lit (xs : List Ins) (a d sn seed id ahead fuel sq : Int) (rg : Nat → Int) (cs ps : List Int) (es : List ESm) (p1 p2 p3 p4 : Nat) (hx : ∀ x ∈ xs, x.ok) (hcap : max xs.length p1 ≤ 9223372036854775807) (hcp : cs.length ≤ p2) (ha : 0 ≤ a ∧ a ≤ 255) (hd : 0 ≤ d ∧ d ≤ 4294967295) (hs : 0 ≤ sn ∧ sn ≤ 255) (hid : 0 ≤ id ∧ id ≤ 255) (hah : 0 ≤ ahead ∧ ahead ≤ 255) (hf : 0 ≤ fuel ∧ fuel ≤ 65535) (hsq : 0 ≤ sq ∧ sq ≤ 65535) (hps : ∀ q, 0 ≤ ps.getD q 0 ∧ ps.getD q 0 ≤ 255) (hpl : ps.length ≤ p3) (hp3 : p3 ≤ 9223372036854775807) (hes : ∀ e ∈ es, e.ok) (hel : es.length ≤ p4) (hp4 : p4 ≤ 9223372036854775807) (way whe nn : Int) (hw : 0 ≤ way ∧ way ≤ 255) (hwh : 0 ≤ whe ∧ whe ≤ 255) : LitOk Try.prog 10 [.agg [.sl 1 2 [] 5 0 xs.length (some p1), .agg [.int .u8 a, .arr 8 1 (fun q => .int .i64 (rg q)), .sl 3 4 [] 1 0 cs.length (some p2), .int .u32 d, .int .u8 sn], .int .u64 seed, .int .u8 id, .int .u8 ahead, .int .u16 fuel, .int .u16 sq, .sl 5 6 [] 1 0 ps.length (some p3), .sl 7 8 [] 3 0 es.length (some p4)], .int .u8 way, .int .u8 whe, .int .i64 nn]
    [.gone, .gone, .ro (.arr xs.length 5 (prS xs)), .gone, .ro (.arr cs.length 1 (i64S cs)), .gone, .ro (.arr ps.length 1 (u8S ps)), .gone, .ro (.arr es.length 3 (esS es))] (.bool true) [.gone] := by
  have y0 := Int.tmod_nonneg 16 hid.1
  have y1 := Int.tmod_lt_of_pos id (show (0 : Int) < 16 by decide)
  have y2 := Int.tmod_nonneg 5 hah.1
  have y3 := Int.tmod_lt_of_pos ahead (show (0 : Int) < 5 by decide)
  have y4 := Int.tmod_nonneg 300 hf.1
  have y5 := Int.tmod_lt_of_pos fuel (show (0 : Int) < 300 by decide)
  have w0 := Int.tmod_nonneg 10 hw.1
  have w1 := Int.tmod_lt_of_pos way (show (0 : Int) < 10 by decide)
  have hE0 := made28_proc xs (cs := cs) (ps := ps) (seed := seed) hid.1 hah.1 hf.1 hsq hd hps
  have hok := made14_ok xs hx
  have hml := (made14_le xs).2
  have hct : (cs.take 12).length ≤ 12 := by rw [List.length_take]; omega
  have hpt : (mPorts (ps.take 16)).length ≤ 16 := by simp [mPorts]; omega
  have hG := mEv_good (p := ⟨1 + id.tmod 16, made14 xs, cs.take 12, d, sq, mPorts (ps.take 16)⟩) (l := es.take 10) (by rw [List.length_take]; omega) (fun e he => hes e (List.mem_of_mem_take he))
  have hGt := mEv_time (p := ⟨1 + id.tmod 16, made14 xs, cs.take 12, d, sq, mPorts (ps.take 16)⟩) (l := es.take 10) (by rw [List.length_take]; omega) (fun e he => hes e (List.mem_of_mem_take he))
  have hGl := hG.1
  have hGb := hG.2
  rw [List.length_take] at hGl
  dsimp only at hGl hGb hGt
  have hcapp : max ps.length p3 ≤ 9223372036854775807 := by omega
  have hcape : max es.length p4 ≤ 9223372036854775807 := by omega
  obtain ⟨PP, hPP⟩ : ∃ x, made14 xs = x := ⟨_, rfl⟩
  obtain ⟨CC, hCC⟩ : ∃ x, cs.take 12 = x := ⟨_, rfl⟩
  obtain ⟨QQ, hQQ⟩ : ∃ x, mPorts (ps.take 16) = x := ⟨_, rfl⟩
  obtain ⟨ID, hID⟩ : ∃ x, 1 + id.tmod 16 = x := ⟨_, rfl⟩
  obtain ⟨AH, hAH⟩ : ∃ x, 1 + ahead.tmod 5 = x := ⟨_, rfl⟩
  obtain ⟨FU, hFU⟩ : ∃ x, fuel.tmod 300 = x := ⟨_, rfl⟩
  rw [hPP, hCC, hQQ, hID, hAH, hFU] at hE0
  rw [hPP] at hok hml
  rw [hCC] at hct
  rw [hQQ] at hpt
  rw [hPP, hCC, hQQ, hID] at hGb
  rw [hID] at hGl hGt
  obtain ⟨L, hL⟩ : ∃ x, (mEv ID (es.take 10)).2 = x := ⟨_, rfl⟩
  rw [hL] at hGl hGb hGt
  have hLl : L.length ≤ 10 := by omega
  have hn : PP.length ≤ 1000000 := by omega
  have hc : CC.length ≤ 1000000 := by omega
  have hq : QQ.length ≤ 1000000 := by omega
  have hBc := bad_cons (p := ⟨ID, PP, CC, d, sq, QQ⟩) (id := ID) rfl hGb hGt
  have k0 := Int.tmod_nonneg ((L.length + 1 : Nat) : Int) hwh.1
  have k1 := Int.tmod_lt_of_pos whe (show (0 : Int) < ((L.length + 1 : Nat) : Int) by omega)
  have hr1 := (procE_zero hE0).1
  have hp1 := (procE_zero hE0).2

  refine litOkM (fn := Try.f10) 9 170 0 rfl rfl rfl rfl rfl (by simp only [StableL, Stable, hp, pcR, dnB, DnI.at_, dnS, dnR, pcS, i64S, prS, insS, sndsS, sndS, evtsS, evtS, prO, i64O, inO, evO_, cB, sB, u8S, esS, esA, HB.stable]; simp [HB.born]) rfl fun w0 M E hro => ?_
  obtain ⟨E0, hE0L⟩ : ∃ x : List Evt, (⟨0, 0, 0, ID, 0⟩ :: L : List Evt) = x := ⟨_, rfl⟩
  have hEl : 1 + L.length = E0.length := by rw [← hE0L, List.length_cons]; omega
  rw [hE0L] at hBc
  have hEll : E0.length ≤ 11 := by omega
  have hE1 : 0 < E0.length := by omega
  have k0 := Int.tmod_nonneg ((E0.length : Nat) : Int) hwh.1
  have k1 := Int.tmod_lt_of_pos whe (show (0 : Int) < ((E0.length : Nat) : Int) by omega)
  obtain ⟨k, hKI⟩ : ∃ k : Nat, whe.tmod (E0.length : Int) = (k : Int) := ⟨(whe.tmod (E0.length : Int)).toNat, by omega⟩
  have hkl : k < E0.length := by omega
  iterate 26 (try (first | refine Ctl.h ?_ | ((with_reducible intro hif); first | (focus (cases hif; done)) | (simp only [JH] at hif; try (exfalso; omega)) | (try (exfalso; omega))) | ((first | ((with_reducible apply J22 cWrC_ok tab_ok); (· rfl)) | ((with_reducible apply J23 fol cWrC_ok tab_ok); (· rfl)) | with_reducible apply J24); (· (simp only [push_cast, ↓JP, Nat.reduceAdd, Nat.reduceEqDiff, Nat.reduceLT, Nat.reduceMul, Nat.reduceLeDiff, reduceCtorEq, reduceIte, ↓JK, cWrC, ↓evtS_sz, ↓evtS_ag, ↓evtS_pl, Nat.sub_zero, hEl, hPP, hCC, hQQ, hID, hAH, hFU, hL, hKI]; rfl)); (try kernel_rfl); (try exact Vm.b124)) | fail))
  refine At.pick (L2 := [.gone, .gone, .ro (.arr xs.length 5 (prS xs)), .gone, .ro (.arr cs.length 1 (i64S cs)), .gone, .ro (.arr ps.length 1 (u8S ps)), .gone, .ro (.arr es.length 3 (esS es)), .own 78 (.agg [.sl 1 2 [] 5 0 xs.length (some p1), .agg [.int .u8 a, .arr 8 1 (fun q => .int .i64 (rg q)), .sl 3 4 [] 1 0 cs.length (some p2), .int .u32 d, .int .u8 sn], .int .u64 seed, .int .u8 id, .int .u8 ahead, .int .u16 fuel, .int .u16 sq, .sl 5 6 [] 1 0 ps.length (some p3), .sl 7 8 [] 3 0 es.length (some p4)]) true, .own 73 (.arr PP.length 5 (prS PP)) false, .own 2 (.arr CC.length 1 (i64S CC)) false, .own 3 (.arr QQ.length 1 (i64S QQ)) false, .gone, .own 80 (.agg [.int .u64 seed, .int .i64 AH, .int .i64 FU]) true, .own 82 (.agg [.int .i64 ID, .sl 10 10 [] 5 0 PP.length none, .sl 11 11 [] 1 0 CC.length none, .int .i64 d, .int .i64 sq, .sl 12 12 [] 1 0 QQ.length none]) true, .own 39 (.arr E0.length 5 (evtsS E0)) false]) (φ2 := [(1, .int .u8 way), (2, .int .u8 whe), (3, .int .i64 nn), (4, .ptr 9 []), (9, .ptr 14 []), (10, .ptr 15 []), (11, .sl 16 16 [] 5 0 E0.length none), (12, .int .i64 (k : Int))]) [0, 1, 2, 3, 4, 5, 6, 7, 8, 9, 10, 11, 12, 16, 14, 15, 17] rfl rfl rfl ?_ rfl ?_ ?_ ?_ rfl ?_
  · (repeat' (first | exact trivial | exact .inl rfl | exact .inr (.same _) | exact .inr .loose | exact .inr (.arr (by assumption)) | apply And.intro | (exact .inr (less_consE _ _ hE0L rfl (fun β => rfl)))))
  · exact Vm.b122
  · exact Vm.b68
  · exact Vm.b122
  have hE00 : E0.length = 0 ∨ 0 < E0.length := by omega
  have w10 : way.tmod 10 = 0 ∨ way.tmod 10 = 1 ∨ way.tmod 10 = 2 ∨ way.tmod 10 = 3 ∨ way.tmod 10 = 4 ∨ way.tmod 10 = 5 ∨ way.tmod 10 = 6 ∨ way.tmod 10 = 7 ∨ way.tmod 10 = 8 ∨ way.tmod 10 = 9 := by omega
  rcases w10 with w | w | w | w | w | w | w | w | w | w
  · skip
    have hF : procE ⟨seed, min nn 0, FU⟩ ⟨ID, PP, CC, d, sq, QQ⟩ = 280 := procE_rules (decide_eq_false (by dsimp only; omega))
    have hF0 : procE ⟨seed, min nn 0, FU⟩ ⟨ID, PP, CC, d, sq, QQ⟩ ≠ 0 := by rw [hF]; decide
    have hO := oneE_chk (e := ⟨0, 0, 0, 0, 0⟩) hF0
    rw [hF] at hO
    have hO0 : oneE ⟨seed, min nn 0, FU⟩ ⟨ID, PP, CC, d, sq, QQ⟩ ⟨0, 0, 0, 0, 0⟩ ≠ 0 := by rw [hO]; decide
    have hD := eqD_zero

    repeat' (first | refine Ctl.h ?_ | ((with_reducible intro hif); first | (focus (cases hif; done)) | (simp only [JH] at hif; try (exfalso; omega)) | (try (exfalso; omega))) | ((first | ((with_reducible apply J22 cWrC_ok tab_ok); (· rfl)) | ((with_reducible apply J23 fol cWrC_ok tab_ok); (· rfl)) | with_reducible apply J24); (· exact Vm.b126); (try kernel_rfl); (try exact Vm.b125)) | fail)
    apply At.endsRet tab_ok (fn := Try.f10) (rs := [.tmp 8]) Anc.refl hro (Nat.le_of_ble_eq_true rfl) rfl
    · exact Vm.b18
    · exact Vm.b7
    · exact Vm.b8
    · rfl
    · exact Vm.b122
    · exact Vm.b10
    · exact fun β => rfl
    · exact Vm.b122
  · skip
    have hF : procE ⟨seed, AH, max nn 4097⟩ ⟨ID, PP, CC, d, sq, QQ⟩ = 280 := procE_rules (decide_eq_false (by dsimp only; omega))
    have hF0 : procE ⟨seed, AH, max nn 4097⟩ ⟨ID, PP, CC, d, sq, QQ⟩ ≠ 0 := by rw [hF]; decide
    have hO := oneE_chk (e := ⟨0, 0, 0, 0, 0⟩) hF0
    rw [hF] at hO
    have hO0 : oneE ⟨seed, AH, max nn 4097⟩ ⟨ID, PP, CC, d, sq, QQ⟩ ⟨0, 0, 0, 0, 0⟩ ≠ 0 := by rw [hO]; decide
    have hD := eqD_zero

    repeat' (first | refine Ctl.h ?_ | ((with_reducible intro hif); first | (focus (cases hif; done)) | (simp only [JH] at hif; try (exfalso; omega)) | (try (exfalso; omega))) | ((first | ((with_reducible apply J22 cWrC_ok tab_ok); (· rfl)) | ((with_reducible apply J23 fol cWrC_ok tab_ok); (· rfl)) | with_reducible apply J24); (· exact Vm.b126); (try kernel_rfl); (try exact Vm.b125)) | fail)
    apply At.endsRet tab_ok (fn := Try.f10) (rs := [.tmp 8]) Anc.refl hro (Nat.le_of_ble_eq_true rfl) rfl
    · exact Vm.b18
    · exact Vm.b7
    · exact Vm.b8
    · rfl
    · exact Vm.b122
    · exact Vm.b10
    · exact fun β => rfl
    · exact Vm.b122
  · skip
    have hF : procE ⟨seed, AH, FU⟩ ⟨min nn 0, PP, CC, d, sq, QQ⟩ = 281 := procE_proc hr1 (rightB_not (by dsimp only; omega))
    have hF0 : procE ⟨seed, AH, FU⟩ ⟨min nn 0, PP, CC, d, sq, QQ⟩ ≠ 0 := by rw [hF]; decide
    have hO := oneE_chk (e := ⟨0, 0, 0, 0, 0⟩) hF0
    rw [hF] at hO
    have hO0 : oneE ⟨seed, AH, FU⟩ ⟨min nn 0, PP, CC, d, sq, QQ⟩ ⟨0, 0, 0, 0, 0⟩ ≠ 0 := by rw [hO]; decide
    have hD := eqD_zero

    repeat' (first | refine Ctl.h ?_ | ((with_reducible intro hif); first | (focus (cases hif; done)) | (simp only [JH] at hif; try (exfalso; omega)) | (try (exfalso; omega))) | ((first | ((with_reducible apply J22 cWrC_ok tab_ok); (· rfl)) | ((with_reducible apply J23 fol cWrC_ok tab_ok); (· rfl)) | with_reducible apply J24); (· exact Vm.b126); (try kernel_rfl); (try exact Vm.b125)) | fail)
    apply At.endsRet tab_ok (fn := Try.f10) (rs := [.tmp 8]) Anc.refl hro (Nat.le_of_ble_eq_true rfl) rfl
    · exact Vm.b18
    · exact Vm.b7
    · exact Vm.b8
    · rfl
    · exact Vm.b122
    · exact Vm.b10
    · exact fun β => rfl
    · exact Vm.b122
  · skip
    have hF : procE ⟨seed, AH, FU⟩ ⟨ID, PP, CC, d, max nn 4294967297, QQ⟩ = 281 := procE_proc hr1 (rightB_not (by dsimp only; omega))
    have hF0 : procE ⟨seed, AH, FU⟩ ⟨ID, PP, CC, d, max nn 4294967297, QQ⟩ ≠ 0 := by rw [hF]; decide
    have hO := oneE_chk (e := ⟨0, 0, 0, 0, 0⟩) hF0
    rw [hF] at hO
    have hO0 : oneE ⟨seed, AH, FU⟩ ⟨ID, PP, CC, d, max nn 4294967297, QQ⟩ ⟨0, 0, 0, 0, 0⟩ ≠ 0 := by rw [hO]; decide
    have hD := eqD_zero

    repeat' (first | refine Ctl.h ?_ | ((with_reducible intro hif); first | (focus (cases hif; done)) | (simp only [JH] at hif; try (exfalso; omega)) | (try (exfalso; omega))) | ((first | ((with_reducible apply J22 cWrC_ok tab_ok); (· rfl)) | ((with_reducible apply J23 fol cWrC_ok tab_ok); (· rfl)) | with_reducible apply J24); (· exact Vm.b126); (try kernel_rfl); (try exact Vm.b125)) | fail)
    apply At.endsRet tab_ok (fn := Try.f10) (rs := [.tmp 8]) Anc.refl hro (Nat.le_of_ble_eq_true rfl) rfl
    · exact Vm.b18
    · exact Vm.b7
    · exact Vm.b8
    · rfl
    · exact Vm.b122
    · exact Vm.b10
    · exact fun β => rfl
    · exact Vm.b122
  · skip
    have hF : procE ⟨seed, AH, FU⟩ ⟨ID, PP, CC, min nn (-1), sq, QQ⟩ = 281 := procE_proc hr1 (rightB_not (by dsimp only; omega))
    have hF0 : procE ⟨seed, AH, FU⟩ ⟨ID, PP, CC, min nn (-1), sq, QQ⟩ ≠ 0 := by rw [hF]; decide
    have hO := oneE_chk (e := ⟨0, 0, 0, 0, 0⟩) hF0
    rw [hF] at hO
    have hO0 : oneE ⟨seed, AH, FU⟩ ⟨ID, PP, CC, min nn (-1), sq, QQ⟩ ⟨0, 0, 0, 0, 0⟩ ≠ 0 := by rw [hO]; decide
    have hD := eqD_zero

    repeat' (first | refine Ctl.h ?_ | ((with_reducible intro hif); first | (focus (cases hif; done)) | (simp only [JH] at hif; try (exfalso; omega)) | (try (exfalso; omega))) | ((first | ((with_reducible apply J22 cWrC_ok tab_ok); (· rfl)) | ((with_reducible apply J23 fol cWrC_ok tab_ok); (· rfl)) | with_reducible apply J24); (· exact Vm.b126); (try kernel_rfl); (try exact Vm.b125)) | fail)
    apply At.endsRet tab_ok (fn := Try.f10) (rs := [.tmp 8]) Anc.refl hro (Nat.le_of_ble_eq_true rfl) rfl
    · exact Vm.b18
    · exact Vm.b7
    · exact Vm.b8
    · rfl
    · exact Vm.b122
    · exact Vm.b10
    · exact fun β => rfl
    · exact Vm.b122
  · skip
    obtain ⟨q5, hq5⟩ : ∃ x : Nat, min QQ.length 15 = x := ⟨_, rfl⟩
    have hq5t : (min (QQ.length : Int) 15).toNat = q5 := by omega
    have hq5n : q5 ≤ QQ.length := by omega
    have hq5l : q5 ≤ 15 := by omega
    obtain ⟨Q5, hQ5L⟩ : ∃ x, QQ.take q5 ++ [17] = x := ⟨_, rfl⟩
    have hQ5l : q5 + 1 = Q5.length := by rw [← hQ5L, List.length_append, List.length_take]; simp; omega
    have hQ5m : Q5.length ≤ 1000000 := by omega
    have hF : procE ⟨seed, AH, FU⟩ ⟨ID, PP, CC, d, sq, Q5⟩ = 281 := procE_proc hr1 (rightB_not (fun h => by have h9 := h.2.2.2.2.2.2.2.2; rw [← hQ5L] at h9; simp only [port17] at h9; cases h9))
    have hF0 : procE ⟨seed, AH, FU⟩ ⟨ID, PP, CC, d, sq, Q5⟩ ≠ 0 := by rw [hF]; decide
    have hO := oneE_chk (e := ⟨0, 0, 0, 0, 0⟩) hF0
    rw [hF] at hO
    have hO0 : oneE ⟨seed, AH, FU⟩ ⟨ID, PP, CC, d, sq, Q5⟩ ⟨0, 0, 0, 0, 0⟩ ≠ 0 := by rw [hO]; decide
    have hD := eqD_zero

    iterate 55 (try (first | refine Ctl.h ?_ | ((with_reducible intro hif); first | (focus (cases hif; done)) | (simp only [JH] at hif; try (exfalso; omega)) | (try (exfalso; omega))) | ((first | ((with_reducible apply J22 cWrC_ok tab_ok); (· rfl)) | ((with_reducible apply J23 fol cWrC_ok tab_ok); (· rfl)) | with_reducible apply J24); (· (simp only [push_cast, ↓JP, Nat.reduceAdd, Nat.reduceEqDiff, Nat.reduceLT, Nat.reduceMul, Nat.reduceLeDiff, reduceCtorEq, reduceIte, ↓JK, cWrC, ↓evtS_sz, ↓evtS_ag, ↓evtS_pl, Nat.sub_zero, hEl, hPP, hCC, hQQ, hID, hAH, hFU, hL, w, hKI, hq5, hq5t, hQ5l, Nat.zero_add, List.all_cons, List.all_nil]; rfl)); (try kernel_rfl); (try exact Vm.b124)) | fail))
    · try simp only [wrsL, setH, List.length_cons, List.length_nil, Nat.reduceAdd, hq5, hq5t, hQ5l]
      refine At.pick (L2 := [.gone, .gone, .ro (.arr xs.length 5 (prS xs)), .gone, .ro (.arr cs.length 1 (i64S cs)), .gone, .ro (.arr ps.length 1 (u8S ps)), .gone, .ro (.arr es.length 3 (esS es)), .own 78 (.agg [.sl 1 2 [] 5 0 xs.length (some p1), .agg [.int .u8 a, .arr 8 1 (fun q => .int .i64 (rg q)), .sl 3 4 [] 1 0 cs.length (some p2), .int .u32 d, .int .u8 sn], .int .u64 seed, .int .u8 id, .int .u8 ahead, .int .u16 fuel, .int .u16 sq, .sl 5 6 [] 1 0 ps.length (some p3), .sl 7 8 [] 3 0 es.length (some p4)]) true, .own 73 (.arr PP.length 5 (prS PP)) false, .own 2 (.arr CC.length 1 (i64S CC)) false, .own 3 (.arr QQ.length 1 (i64S QQ)) false, .gone, .own 80 (.agg [.int .u64 seed, .int .i64 AH, .int .i64 FU]) true, .own 82 (.agg [.int .i64 ID, .sl 10 10 [] 5 0 PP.length none, .sl 11 11 [] 1 0 CC.length none, .int .i64 d, .int .i64 sq, .sl 17 17 [] 1 0 Q5.length none]) true, .own 39 (.arr E0.length 5 (evtsS E0)) false, .own 3 (.arr Q5.length 1 (i64S Q5)) false]) (φ2 := [(1, .int .u8 way), (2, .int .u8 whe), (3, .int .i64 nn), (4, .ptr 9 []), (9, .ptr 14 []), (10, .ptr 15 []), (11, .sl 16 16 [] 5 0 E0.length none), (12, .int .i64 (k : Int)), (13, .int .i64 (-1)), (14, .nat .i64 281)]) [0, 1, 2, 3, 4, 5, 6, 7, 8, 9, 10, 11, 12, 13, 14, 15, 16, 19] rfl rfl rfl ?_ rfl ?_ ?_ ?_ rfl ?_
      · (repeat' (first | exact trivial | exact .inl rfl | exact .inr (.same _) | exact .inr .loose | exact .inr (.arr (by assumption)) | apply And.intro | (exact .inr (less_cutI _ hq5n hQ5L hQ5l rfl (fun β => rfl)))))
      · exact Vm.b122
      · exact Vm.b68
      · exact Vm.b122
      repeat' (first | refine Ctl.h ?_ | ((with_reducible intro hif); first | (focus (cases hif; done)) | (simp only [JH] at hif; try (exfalso; omega)) | (try (exfalso; omega))) | ((first | ((with_reducible apply J22 cWrC_ok tab_ok); (· rfl)) | ((with_reducible apply J23 fol cWrC_ok tab_ok); (· rfl)) | with_reducible apply J24); (· exact Vm.b126); (try kernel_rfl); (try exact Vm.b125)) | fail)
      apply At.endsRet tab_ok (fn := Try.f10) (rs := [.tmp 8]) Anc.refl hro (Nat.le_of_ble_eq_true rfl) rfl
      · exact Vm.b18
      · exact Vm.b7
      · exact Vm.b8
      · rfl
      · exact Vm.b122
      · exact Vm.b10
      · exact fun β => rfl
      · exact Vm.b122
    · intro h; cases h
  · skip
    have hF : procE ⟨seed, AH, FU⟩ ⟨ID, [], CC, d, sq, QQ⟩ = 281 := procE_proc hr1 (rightB_not (fun h => absurd h.1 (show ¬ (checkI ([] : List Ins)).2 = 0 by decide)))
    have hF0 : procE ⟨seed, AH, FU⟩ ⟨ID, [], CC, d, sq, QQ⟩ ≠ 0 := by rw [hF]; decide
    have hO := oneE_chk (e := ⟨0, 0, 0, 0, 0⟩) hF0
    rw [hF] at hO
    have hO0 : oneE ⟨seed, AH, FU⟩ ⟨ID, [], CC, d, sq, QQ⟩ ⟨0, 0, 0, 0, 0⟩ ≠ 0 := by rw [hO]; decide
    have hD := eqD_zero

    repeat' (first | refine Ctl.h ?_ | ((with_reducible intro hif); first | (focus (cases hif; done)) | (simp only [JH] at hif; try (exfalso; omega)) | (try (exfalso; omega))) | ((first | ((with_reducible apply J22 cWrC_ok tab_ok); (· rfl)) | ((with_reducible apply J23 fol cWrC_ok tab_ok); (· rfl)) | with_reducible apply J24); (· exact Vm.b126); (try kernel_rfl); (try exact Vm.b125)) | fail)
    apply At.endsRet tab_ok (fn := Try.f10) (rs := [.tmp 8]) Anc.refl hro (Nat.le_of_ble_eq_true rfl) rfl
    · exact Vm.b18
    · exact Vm.b7
    · exact Vm.b8
    · rfl
    · exact Vm.b122
    · exact Vm.b10
    · exact fun β => rfl
    · exact Vm.b122
  · skip
    obtain ⟨hB1, hB2⟩ := bad_set (x := { E0.getD k ⟨0, 0, 0, 0, 0⟩ with to_ := ID + 1 }) hkl hBc (takes_to (p := ⟨ID, PP, CC, d, sq, QQ⟩) (by dsimp only; omega))
    obtain ⟨E1, hE1L⟩ : ∃ x, E0.set k { E0.getD k ⟨0, 0, 0, 0, 0⟩ with to_ := ID + 1 } = x := ⟨_, rfl⟩
    have hE1l : E1.length = E0.length := by rw [← hE1L, List.length_set]
    rw [hE1L] at hB1 hB2
    have hk1 : k < E1.length := by omega
    have hE1m : E1.length ≤ 200 := by omega
    have hB3 : badAt ⟨ID, PP, CC, d, sq, QQ⟩ E1 k ≠ 0 := by rw [hB2]; decide
    have hD := eqD_zero

    iterate 69 (try (first | refine Ctl.h ?_ | ((with_reducible intro hif); first | (focus (cases hif; done)) | (simp only [JH] at hif; try (exfalso; omega)) | (try (exfalso; omega))) | ((first | ((with_reducible apply J22 (cWrB_ok k) tab_ok); (· rfl)) | ((with_reducible apply J23 fol (cWrB_ok k) tab_ok); (· rfl)) | with_reducible apply J24); (· exact Vm.b127); (try kernel_rfl); (try exact Vm.b124)) | fail))
    · try simp only [wrsL, setH, List.length_cons, List.length_nil, Nat.reduceAdd, Int.toNat_natCast, List.set_cons_succ, List.set_cons_zero, ← hE1l]
      refine At.pick (L2 := [.gone, .gone, .ro (.arr xs.length 5 (prS xs)), .gone, .ro (.arr cs.length 1 (i64S cs)), .gone, .ro (.arr ps.length 1 (u8S ps)), .gone, .ro (.arr es.length 3 (esS es)), .own 78 (.agg [.sl 1 2 [] 5 0 xs.length (some p1), .agg [.int .u8 a, .arr 8 1 (fun q => .int .i64 (rg q)), .sl 3 4 [] 1 0 cs.length (some p2), .int .u32 d, .int .u8 sn], .int .u64 seed, .int .u8 id, .int .u8 ahead, .int .u16 fuel, .int .u16 sq, .sl 5 6 [] 1 0 ps.length (some p3), .sl 7 8 [] 3 0 es.length (some p4)]) true, .own 73 (.arr PP.length 5 (prS PP)) false, .own 2 (.arr CC.length 1 (i64S CC)) false, .own 3 (.arr QQ.length 1 (i64S QQ)) false, .gone, .own 80 (.agg [.int .u64 seed, .int .i64 AH, .int .i64 FU]) true, .own 82 (.agg [.int .i64 ID, .sl 10 10 [] 5 0 PP.length none, .sl 11 11 [] 1 0 CC.length none, .int .i64 d, .int .i64 sq, .sl 12 12 [] 1 0 QQ.length none]) true, .own 39 (.arr E1.length 5 (evtsS E1)) false]) (φ2 := [(1, .int .u8 way), (2, .int .u8 whe), (3, .int .i64 nn), (4, .ptr 9 []), (9, .ptr 14 []), (10, .ptr 15 []), (11, .sl 16 16 [] 5 0 E1.length none), (12, .int .i64 (k : Int)), (13, .int .i64 (k : Int)), (14, .nat .i64 282)]) [0, 1, 2, 3, 4, 5, 6, 7, 8, 9, 10, 11, 12, 13, 14, 15, 16] rfl rfl rfl ?_ rfl ?_ ?_ ?_ rfl ?_
      · exact Vm.b123
      · exact Vm.b122
      · exact Vm.b68
      · exact Vm.b122
      repeat' (first | refine Ctl.h ?_ | ((with_reducible intro hif); first | (focus (cases hif; done)) | (simp only [JH] at hif; try (exfalso; omega)) | (try (exfalso; omega))) | ((first | ((with_reducible apply J22 (cWrB_ok k) tab_ok); (· rfl)) | ((with_reducible apply J23 fol (cWrB_ok k) tab_ok); (· rfl)) | with_reducible apply J24); (· exact Vm.b129); (try kernel_rfl); (try exact Vm.b128)) | fail)
      apply At.endsRet tab_ok (fn := Try.f10) (rs := [.tmp 8]) Anc.refl hro (Nat.le_of_ble_eq_true rfl) rfl
      · exact Vm.b18
      · exact Vm.b7
      · exact Vm.b8
      · rfl
      · exact Vm.b122
      · exact Vm.b10
      · exact fun β => rfl
      · exact Vm.b122
    · intro h; cases h
  · skip
    obtain ⟨hB1, hB2⟩ := bad_set (x := { E0.getD k ⟨0, 0, 0, 0, 0⟩ with seq := min nn (-1) }) hkl hBc (takes_seq (p := ⟨ID, PP, CC, d, sq, QQ⟩) (by dsimp only; omega))
    obtain ⟨E1, hE1L⟩ : ∃ x, E0.set k { E0.getD k ⟨0, 0, 0, 0, 0⟩ with seq := min nn (-1) } = x := ⟨_, rfl⟩
    have hE1l : E1.length = E0.length := by rw [← hE1L, List.length_set]
    rw [hE1L] at hB1 hB2
    have hk1 : k < E1.length := by omega
    have hE1m : E1.length ≤ 200 := by omega
    have hB3 : badAt ⟨ID, PP, CC, d, sq, QQ⟩ E1 k ≠ 0 := by rw [hB2]; decide
    have hD := eqD_zero

    iterate 76 (try (first | refine Ctl.h ?_ | ((with_reducible intro hif); first | (focus (cases hif; done)) | (simp only [JH] at hif; try (exfalso; omega)) | (try (exfalso; omega))) | ((first | ((with_reducible apply J22 (cWrB_ok k) tab_ok); (· rfl)) | ((with_reducible apply J23 fol (cWrB_ok k) tab_ok); (· rfl)) | with_reducible apply J24); (· exact Vm.b127); (try kernel_rfl); (try exact Vm.b124)) | fail))
    · try simp only [wrsL, setH, List.length_cons, List.length_nil, Nat.reduceAdd, Int.toNat_natCast, List.set_cons_succ, List.set_cons_zero, ← hE1l]
      refine At.pick (L2 := [.gone, .gone, .ro (.arr xs.length 5 (prS xs)), .gone, .ro (.arr cs.length 1 (i64S cs)), .gone, .ro (.arr ps.length 1 (u8S ps)), .gone, .ro (.arr es.length 3 (esS es)), .own 78 (.agg [.sl 1 2 [] 5 0 xs.length (some p1), .agg [.int .u8 a, .arr 8 1 (fun q => .int .i64 (rg q)), .sl 3 4 [] 1 0 cs.length (some p2), .int .u32 d, .int .u8 sn], .int .u64 seed, .int .u8 id, .int .u8 ahead, .int .u16 fuel, .int .u16 sq, .sl 5 6 [] 1 0 ps.length (some p3), .sl 7 8 [] 3 0 es.length (some p4)]) true, .own 73 (.arr PP.length 5 (prS PP)) false, .own 2 (.arr CC.length 1 (i64S CC)) false, .own 3 (.arr QQ.length 1 (i64S QQ)) false, .gone, .own 80 (.agg [.int .u64 seed, .int .i64 AH, .int .i64 FU]) true, .own 82 (.agg [.int .i64 ID, .sl 10 10 [] 5 0 PP.length none, .sl 11 11 [] 1 0 CC.length none, .int .i64 d, .int .i64 sq, .sl 12 12 [] 1 0 QQ.length none]) true, .own 39 (.arr E1.length 5 (evtsS E1)) false]) (φ2 := [(1, .int .u8 way), (2, .int .u8 whe), (3, .int .i64 nn), (4, .ptr 9 []), (9, .ptr 14 []), (10, .ptr 15 []), (11, .sl 16 16 [] 5 0 E1.length none), (12, .int .i64 (k : Int)), (13, .int .i64 (k : Int)), (14, .nat .i64 282)]) [0, 1, 2, 3, 4, 5, 6, 7, 8, 9, 10, 11, 12, 13, 14, 15, 16] rfl rfl rfl ?_ rfl ?_ ?_ ?_ rfl ?_
      · exact Vm.b123
      · exact Vm.b122
      · exact Vm.b68
      · exact Vm.b122
      repeat' (first | refine Ctl.h ?_ | ((with_reducible intro hif); first | (focus (cases hif; done)) | (simp only [JH] at hif; try (exfalso; omega)) | (try (exfalso; omega))) | ((first | ((with_reducible apply J22 (cWrB_ok k) tab_ok); (· rfl)) | ((with_reducible apply J23 fol (cWrB_ok k) tab_ok); (· rfl)) | with_reducible apply J24); (· exact Vm.b129); (try kernel_rfl); (try exact Vm.b128)) | fail)
      apply At.endsRet tab_ok (fn := Try.f10) (rs := [.tmp 8]) Anc.refl hro (Nat.le_of_ble_eq_true rfl) rfl
      · exact Vm.b18
      · exact Vm.b7
      · exact Vm.b8
      · rfl
      · exact Vm.b122
      · exact Vm.b10
      · exact fun β => rfl
      · exact Vm.b122
    · intro h; cases h
  · skip
    obtain ⟨hB1, hB2⟩ := bad_twice hkl hBc
    obtain ⟨E2, hE2L⟩ : ∃ x, E0.take (k + 1) ++ E0.drop k = x := ⟨_, rfl⟩
    have hE2l : k + 1 + (E0.length - k) = E2.length := by rw [← hE2L, List.length_append, List.length_take, List.length_drop]; omega
    rw [hE2L] at hB1 hB2
    have hk1 : k + 1 < E2.length := by omega
    have hE2m : E2.length ≤ 200 := by omega
    have hB3 : badAt ⟨ID, PP, CC, d, sq, QQ⟩ E2 (k + 1) ≠ 0 := by rw [hB2]; decide
    have hD := eqD_zero
    have hkt : ((k : Int) + 1).toNat = k + 1 := by omega
    have hkc : ((k + 1 : Nat) : Int) = (k : Int) + 1 := by omega
    have hkk : k ≤ E0.length := by omega
    have hkj : 0 < E0.length - k := by omega
    have hkn : k + 1 ≤ E0.length := by omega

    iterate 77 (try (first | refine Ctl.h ?_ | ((with_reducible intro hif); first | (focus (cases hif; done)) | (simp only [JH] at hif; try (exfalso; omega)) | (try (exfalso; omega))) | ((first | ((with_reducible apply J22 (cWrB_ok (k + 1)) tab_ok); (· rfl)) | ((with_reducible apply J23 fol (cWrB_ok (k + 1)) tab_ok); (· rfl)) | with_reducible apply J24); (· (simp only [push_cast, ↓JP, Nat.reduceAdd, Nat.reduceEqDiff, Nat.reduceLT, Nat.reduceMul, Nat.reduceLeDiff, reduceCtorEq, reduceIte, ↓JK, cWrB, ↓evtS_sz, ↓evtS_ag, ↓evtS_pl, Nat.sub_zero, hEl, hPP, hCC, hQQ, hID, hAH, hFU, hL, w, hKI, Int.toNat_natCast, hkt, hE2l, Nat.zero_add, Nat.sub_self]; rfl)); (try kernel_rfl); (try exact Vm.b124)) | fail))
    try simp only [wrsL, setH, List.length_cons, List.length_nil, Nat.reduceAdd, Int.toNat_natCast, hkt, hE2l]
    refine At.pick (L2 := [.gone, .gone, .ro (.arr xs.length 5 (prS xs)), .gone, .ro (.arr cs.length 1 (i64S cs)), .gone, .ro (.arr ps.length 1 (u8S ps)), .gone, .ro (.arr es.length 3 (esS es)), .own 78 (.agg [.sl 1 2 [] 5 0 xs.length (some p1), .agg [.int .u8 a, .arr 8 1 (fun q => .int .i64 (rg q)), .sl 3 4 [] 1 0 cs.length (some p2), .int .u32 d, .int .u8 sn], .int .u64 seed, .int .u8 id, .int .u8 ahead, .int .u16 fuel, .int .u16 sq, .sl 5 6 [] 1 0 ps.length (some p3), .sl 7 8 [] 3 0 es.length (some p4)]) true, .own 73 (.arr PP.length 5 (prS PP)) false, .own 2 (.arr CC.length 1 (i64S CC)) false, .own 3 (.arr QQ.length 1 (i64S QQ)) false, .gone, .own 80 (.agg [.int .u64 seed, .int .i64 AH, .int .i64 FU]) true, .own 82 (.agg [.int .i64 ID, .sl 10 10 [] 5 0 PP.length none, .sl 11 11 [] 1 0 CC.length none, .int .i64 d, .int .i64 sq, .sl 12 12 [] 1 0 QQ.length none]) true, .own 39 (.arr E2.length 5 (evtsS E2)) false]) (φ2 := [(1, .int .u8 way), (2, .int .u8 whe), (3, .int .i64 nn), (4, .ptr 9 []), (9, .ptr 14 []), (10, .ptr 15 []), (11, .sl 16 16 [] 5 0 E2.length none), (12, .int .i64 (k : Int))]) [0, 1, 2, 3, 4, 5, 6, 7, 8, 9, 10, 11, 12, 13, 14, 15, 19] rfl rfl rfl ?_ rfl ?_ ?_ ?_ rfl ?_
    · (repeat' (first | exact trivial | exact .inl rfl | exact .inr (.same _) | exact .inr .loose | exact .inr (.arr (by assumption)) | apply And.intro | (exact .inr (less_twoE _ hkl hE2L rfl))))
    · exact Vm.b122
    · exact Vm.b68
    · exact Vm.b122
    repeat' (first | refine Ctl.h ?_ | ((with_reducible intro hif); first | (focus (cases hif; done)) | (simp only [JH] at hif; try (exfalso; omega)) | (try (exfalso; omega))) | ((first | ((with_reducible apply J22 (cWrB_ok (k + 1)) tab_ok); (· rfl)) | ((with_reducible apply J23 fol (cWrB_ok (k + 1)) tab_ok); (· rfl)) | with_reducible apply J24); (· (simp only [push_cast, ↓JP, Nat.reduceAdd, Nat.reduceEqDiff, Nat.reduceLT, Nat.reduceMul, Nat.reduceLeDiff, reduceCtorEq, reduceIte, ↓JK, cWrB, ↓evtS_sz, ↓evtS_ag, ↓evtS_pl, Nat.sub_zero, hEl, hPP, hCC, hQQ, hID, hAH, hFU, hL, w, hKI, hB2, hD, hE0, hkc]; rfl)); (try kernel_rfl); (try exact Vm.b128)) | fail)
    apply At.endsRet tab_ok (fn := Try.f10) (rs := [.tmp 8]) Anc.refl hro (Nat.le_of_ble_eq_true rfl) rfl
    · exact Vm.b18
    · exact Vm.b7
    · exact Vm.b8
    · rfl
    · exact Vm.b122
    · exact Vm.b10
    · exact fun β => rfl
    · exact Vm.b122
end Go.Proofs.Ytjliakjbdcplcaa.Vm
end

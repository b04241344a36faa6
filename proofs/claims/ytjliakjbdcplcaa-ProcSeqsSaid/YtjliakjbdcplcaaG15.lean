import Derived.Test.YtjliakjbdcplcaaG5
import Derived.Test.YtjliakjbdcplcaaG6
import Derived.Test.YtjliakjbdcplcaaG7
import Derived.Test.YtjliakjbdcplcaaG8
import Derived.Test.YtjliakjbdcplcaaG9
import Derived.Test.YtjliakjbdcplcaaG11
import Derived.Test.YtjliakjbdcplcaaG14
section
namespace Go.Proofs.Ytjliakjbdcplcaa.Vm
theorem b102 {P : Prop} (h : P := by (repeat' (first | exact trivial | exact rfl | assumption | apply Stable.ite | apply And.intro | intro _ | (simp only [Stable, StableL, pcS, dnB, DnI.at_, dnS, dnR, i64S, prS, insS, sndsS, sndS, evtsS, evtS, prO, i64O, inO, evO_, cB, sB, HB.stable]; done)))) : P := h
theorem b103 {P : Prop} (h : P := by (first | exact True.intro | ((try simp only [JS, implies_true, forall_const, shaped, shapedL, kndOf, ls_prS, ls_prS', ls_i64S', ls_i64S, ls_evtsS', ls_evtsS, ls_length, evtOf_evtS, prc_eta, iOf]); (repeat' (first | exact True.intro | assumption | omega | apply And.intro | rfl | decide | intro _)); done) | ((try simp only [JS, implies_true, forall_const, shaped, shapedL, kndOf, inR, inN]); (repeat' (first | assumption | exact True.intro | omega | apply And.intro)); done))) : P := h
theorem b104 {P : Prop} (h : P := by (simp only [push_cast, ↓JP, Nat.reduceAdd, Nat.reduceEqDiff, Nat.reduceLT, Nat.reduceMul, Nat.reduceLeDiff, reduceCtorEq, reduceIte, ↓JK, JE, prc_eta, cO0, sPCheck, sTakes, sPCopy, pcS, prO, i64O, inO, evm_ev, rHaB, rHaG, donP, dnI, isIns_insS, isI_int, isEvt_evtS, evtOf_evtS, ls_evtsS, ls_evtsS', nodupN, memN, inR, inN, ↓evtS_sz, ↓evtS_ag, ↓evtS_pl, nav_evt, rul_eta, ls_zero, JB, dnS, dnR, dnB, evO_, dn0, hE0, ht]; rfl)) : P := h
end Go.Proofs.Ytjliakjbdcplcaa.Vm
end
section
open Go.Proofs.Ytjliakjbdcplcaa.Vm Go.RowKit
attribute [local push_cast] runR opG gtmp gval gus opX tmpsOf tm tmO tmP restr look look2 tab tys zs ets eqB eqBL allB numOf ieq Int.cast_ofNat_Int Int.ofNat_zero beq_true beq_false frameOf ev evL ofV opV loadV noW pushF wrsL setH allBorn allGone HB.born HB.isGone HB.val SV.plain dstOk hp nav fitsT SV.size sizeL SV.isAgg TK.size TK.agg bin binE binN binI arN arI cmpN cmpI keq kn narrow callV storeV setp fillV buildV buildSliceV makeV sliceV appendV appendFV slice3V copyV List.isEmpty_nil srcV evO asN ite_t ite_f ite_bool ite_int ite_nat maxV v_beq v_ble v_blt cond_true cond_false List.getElem?_cons_zero List.getElem?_cons_succ List.getD_cons_zero List.getD_cons_succ List.getD_nil List.length_cons List.length_nil List.take_succ_cons List.take_zero List.set_cons_zero List.set_cons_succ List.cons_append List.nil_append List.append_assoc List.replicate_succ List.replicate_zero Nat.zero_add Nat.add_zero decide_true decide_false Bool.true_and Bool.and_true Bool.false_and Bool.and_false Bool.true_or Bool.or_true Bool.false_or Bool.or_false beq_self_eq_true Bool.or_self Nat.lt_irrefl Nat.not_lt_zero Nat.le_refl Option.getD_some Option.getD_none BEq.rfl Bool.not_true Bool.not_false Bool.cond_true_left Bool.cond_false_right prS sndsS i64S nav_ins nav_ins0 nav_ins1 nav_ins2 nav_ins3 nav_ins4 nav_snd nav_snd0 nav_snd1 nav_snd2 isIns_insS insOf_insS isSnd_sndS sndOf_sndS isI_int isI_nat iOf
section
namespace Go.Proofs.Ytjliakjbdcplcaa.Vm
open Go.RowKit
set_option linter.unusedVariables false
set_option linter.unusedSimpArgs false
set_option maxRecDepth 100000
set_option maxHeartbeats 4000000
def dn0 : SV := .agg [.agg [.nat .i64 0, .sl 0 0 [] 0 0 0 (some 0), .sl 0 0 [] 0 0 0 (some 0), .nat .i64 0, .nat .i64 0, .sl 0 0 [] 0 0 0 (some 0)], .sl 0 0 [] 0 0 0 (some 0), .nat .i64 0]
def oneE (r : Rul) (p : Prc) (e : Evt) : Int := if procE r p ≠ 0 then procE r p else if takesB p e = false then 282 else hE r p e
theorem procE_zero {r : Rul} {p : Prc} (h : procE r p = 0) : r.rightB = true ∧ p.rightB = true := by
  unfold procE at h
  cases hr : r.rightB
  · rw [if_pos hr] at h; cases h
  · rw [if_neg (by rw [hr]; exact Bool.noConfusion)] at h
    cases hp : p.rightB
    · rw [if_pos hp] at h; cases h
    · exact ⟨rfl, rfl⟩
theorem takes_key {p : Prc} {e : Evt} (h : takesB p e = true) : 0 ≤ e.time ∧ e.time ≤ 281474976710656 := by
  unfold takesB at h
  rw [Bool.and_eq_true] at h
  have := of_decide_eq_true (show decide _ = true from h.1)
  exact ⟨this.1, this.2.1⟩
theorem HG.of {r : Rul} {p : Prc} {e : Evt} (h : procE r p = 0) (ht : takesB p e = true) (hok : ∀ x ∈ p.P, x.ok) : HG r p e := ⟨(procE_zero h).1, (procE_zero h).2, hok, (takes_key ht).1, (takes_key ht).2⟩
theorem rul_eta (r : Rul) : Rul.mk r.seed r.ahead r.fuel = r := rfl
theorem nil_cl {β : Env} {x : Nat} (h0 : β 0 = (none, 0)) (hx : β x = (none, 0)) (k : Nat) : (SV.sl x x [] k 0 0 none).den β = (SV.sl 0 0 [] 0 0 0 (some 0)).den β := by simp [SV.den, h0, hx]
def cO0 : FuncId → Option Spec := look2 [(35, sPCheck), (53, sTakes), (54, sPCopy)]
theorem cO0_ok : ∀ f S, cO0 f = some S → CallOk Try.prog f S := allOk_spec ⟨sPCheck_ok, sTakes_ok, sPCopy_ok, trivial⟩
def cOB : FuncId → Option Spec := look2 [(35, sPCheck), (53, sTakes), (54, sPCopy), (55, rHaB)]
theorem cOB_ok : ∀ f S, cOB f = some S → CallOk Try.prog f S := allOk_spec ⟨sPCheck_ok, sTakes_ok, sPCopy_ok, rHaB_ok, trivial⟩
def cOG : FuncId → Option Spec := look2 [(35, sPCheck), (53, sTakes), (54, sPCopy), (55, rHaG)]
theorem cOG_ok : ∀ f S, cOG f = some S → CallOk Try.prog f S := allOk_spec ⟨sPCheck_ok, sTakes_ok, sPCopy_ok, rHaG_ok, trivial⟩
theorem evm_ev (i : Evt) (a : Bool → SV → Option (Prop × SV)) (b : SV → Option (Prop × SV)) (c : Unit → Option (Prop × SV)) : ev.match_1 (fun _ => Option (Prop × SV)) (some (evtS i)) a b c = b (evtS i) := rfl
theorem evtS_sz (e : Evt) : (evtS e).size = 5 := rfl
theorem evtS_ag (e : Evt) : (evtS e).isAgg = true := rfl
theorem evtS_pl (e : Evt) : (evtS e).plain = true := rfl
theorem nav_evt (e : Evt) : nav (evtS e) [] = some (True, evtS e) := rfl
theorem one_chk (r : Rul) (p : Prc) (e : Evt) (p1 p2 p3 : Nat) (hok : ∀ x ∈ p.P, x.ok) (hn : p.P.length ≤ 1000000) (hc : p.cells.length ≤ 1000000) (hpo : p.ports.length ≤ 1000000) (hE0 : procE r p ≠ 0) : LitOk Try.prog 28 [.agg [.int .u64 r.seed, .int .i64 r.ahead, .int .i64 r.fuel], .agg [.int .i64 p.id, .sl 1 2 [] 5 0 p.P.length (some p1), .sl 3 4 [] 1 0 p.cells.length (some p2), .int .i64 p.draws, .int .i64 p.seq, .sl 5 6 [] 1 0 p.ports.length (some p3)], evtS e]
    [.gone, .gone, .ro (.arr p.P.length 5 (prS p.P)), .gone, .ro (.arr p.cells.length 1 (i64S p.cells)), .gone, .ro (.arr p.ports.length 1 (i64S p.ports))]
    (.tup [dn0, .int .i64 (procE r p)]) [.gone] := by

  refine litOkM (fn := Try.f28) 7 38 0 rfl rfl rfl rfl rfl (by simp only [StableL, Stable, hp, pcS, dnB, DnI.at_, dnS, dnR, i64S, prS, insS, sndsS, sndS, evtsS, evtS, prO, i64O, inO, evO_, cB, sB, HB.stable]; simp [HB.born, evtS]) rfl fun w0 M E hro => ?_
  repeat' (first | with_reducible (first | apply J1 | apply J3 | apply J4 | apply J5 | apply J6 | apply J7 | apply J8 | apply J9 | apply J10 | apply J11 | apply J12 | apply J13 | apply J14 | apply J15 | apply J16 | apply J17 | apply J18 | apply J19 | apply J20 | refine J2 ?_) | ((with_reducible apply J21); (· rfl)) | ((with_reducible intro hif); first | (focus (cases hif; done)) | (simp only [JH] at hif; try (exfalso; omega)) | (try (exfalso; omega))) | ((first | ((with_reducible apply J22 cO0_ok tab_ok); (· rfl)) | ((with_reducible apply J23 fol cO0_ok tab_ok); (· rfl)) | with_reducible apply J24); (· (simp only [push_cast, ↓JP, Nat.reduceAdd, Nat.reduceEqDiff, Nat.reduceLT, Nat.reduceMul, Nat.reduceLeDiff, reduceCtorEq, reduceIte, ↓JK, JE, prc_eta, cO0, sPCheck, sTakes, sPCopy, pcS, prO, i64O, inO, evm_ev, rHaB, rHaG, donP, dnI, isIns_insS, isI_int, isEvt_evtS, evtOf_evtS, ls_evtsS, ls_evtsS', nodupN, memN, inR, inN, ↓evtS_sz, ↓evtS_ag, ↓evtS_pl, nav_evt, hE0]; rfl)); (try kernel_rfl); (try exact Vm.b103)) | fail)
  apply At.endsRet tab_ok (fn := Try.f28) (rs := [.cell 6 87, .tmp 7]) Anc.refl hro (Nat.le_of_ble_eq_true rfl) rfl
  · exact Vm.b15
  · exact Vm.b6
  · exact Vm.b7
  · rfl
  · exact Vm.b102
  · exact Vm.b9
  · exact fun β => rfl
  · exact Vm.b102
theorem one_tak (r : Rul) (p : Prc) (e : Evt) (p1 p2 p3 : Nat) (hok : ∀ x ∈ p.P, x.ok) (hn : p.P.length ≤ 1000000) (hc : p.cells.length ≤ 1000000) (hpo : p.ports.length ≤ 1000000) (hE0 : procE r p = 0) (ht : takesB p e = false) : LitOk Try.prog 28 [.agg [.int .u64 r.seed, .int .i64 r.ahead, .int .i64 r.fuel], .agg [.int .i64 p.id, .sl 1 2 [] 5 0 p.P.length (some p1), .sl 3 4 [] 1 0 p.cells.length (some p2), .int .i64 p.draws, .int .i64 p.seq, .sl 5 6 [] 1 0 p.ports.length (some p3)], evtS e]
    [.gone, .gone, .ro (.arr p.P.length 5 (prS p.P)), .gone, .ro (.arr p.cells.length 1 (i64S p.cells)), .gone, .ro (.arr p.ports.length 1 (i64S p.ports))]
    (.tup [dn0, .int .i64 282]) [.gone] := by

  refine litOkM (fn := Try.f28) 7 38 0 rfl rfl rfl rfl rfl (by simp only [StableL, Stable, hp, pcS, dnB, DnI.at_, dnS, dnR, i64S, prS, insS, sndsS, sndS, evtsS, evtS, prO, i64O, inO, evO_, cB, sB, HB.stable]; simp [HB.born, evtS]) rfl fun w0 M E hro => ?_
  repeat' (first | with_reducible (first | apply J1 | apply J3 | apply J4 | apply J5 | apply J6 | apply J7 | apply J8 | apply J9 | apply J10 | apply J11 | apply J12 | apply J13 | apply J14 | apply J15 | apply J16 | apply J17 | apply J18 | apply J19 | apply J20 | refine J2 ?_) | ((with_reducible apply J21); (· rfl)) | ((with_reducible intro hif); first | (focus (cases hif; done)) | (simp only [JH] at hif; try (exfalso; omega)) | (try (exfalso; omega))) | ((first | ((with_reducible apply J22 cO0_ok tab_ok); (· rfl)) | ((with_reducible apply J23 fol cO0_ok tab_ok); (· rfl)) | with_reducible apply J24); (· (simp only [push_cast, ↓JP, Nat.reduceAdd, Nat.reduceEqDiff, Nat.reduceLT, Nat.reduceMul, Nat.reduceLeDiff, reduceCtorEq, reduceIte, ↓JK, JE, prc_eta, cO0, sPCheck, sTakes, sPCopy, pcS, prO, i64O, inO, evm_ev, rHaB, rHaG, donP, dnI, isIns_insS, isI_int, isEvt_evtS, evtOf_evtS, ls_evtsS, ls_evtsS', nodupN, memN, inR, inN, ↓evtS_sz, ↓evtS_ag, ↓evtS_pl, nav_evt, hE0, ht]; rfl)); (try kernel_rfl); (try exact Vm.b103)) | fail)
  apply At.endsRet tab_ok (fn := Try.f28) (rs := [.cell 6 87, .tmp 7]) Anc.refl hro (Nat.le_of_ble_eq_true rfl) rfl
  · exact Vm.b15
  · exact Vm.b6
  · exact Vm.b7
  · rfl
  · exact Vm.b102
  · exact Vm.b9
  · exact fun β => rfl
  · exact Vm.b102
theorem one_bad (r : Rul) (p : Prc) (e : Evt) (p1 p2 p3 : Nat) (hok : ∀ x ∈ p.P, x.ok) (hn : p.P.length ≤ 1000000) (hc : p.cells.length ≤ 1000000) (hpo : p.ports.length ≤ 1000000) (hE0 : procE r p = 0) (ht : takesB p e = true) (hb : hE r p e ≠ 0) : LitOk Try.prog 28 [.agg [.int .u64 r.seed, .int .i64 r.ahead, .int .i64 r.fuel], .agg [.int .i64 p.id, .sl 1 2 [] 5 0 p.P.length (some p1), .sl 3 4 [] 1 0 p.cells.length (some p2), .int .i64 p.draws, .int .i64 p.seq, .sl 5 6 [] 1 0 p.ports.length (some p3)], evtS e]
    [.gone, .gone, .ro (.arr p.P.length 5 (prS p.P)), .gone, .ro (.arr p.cells.length 1 (i64S p.cells)), .gone, .ro (.arr p.ports.length 1 (i64S p.ports))]
    (.tup [dn0, .int .i64 (hE r p e)]) [.gone] := by
  have hG := HG.of hE0 ht hok
  have h5 : (0 : Nat) ≤ 1000000 := by decide
  have h6 : (0 : Nat) ≤ 1000000000 := by decide

  refine litOkM (fn := Try.f28) 7 38 0 rfl rfl rfl rfl rfl (by simp only [StableL, Stable, hp, pcS, dnB, DnI.at_, dnS, dnR, i64S, prS, insS, sndsS, sndS, evtsS, evtS, prO, i64O, inO, evO_, cB, sB, HB.stable]; simp [HB.born, evtS]) rfl fun w0 M E hro => ?_
  repeat' (first | with_reducible (first | apply J1 | apply J3 | apply J4 | apply J5 | apply J6 | apply J7 | apply J8 | apply J9 | apply J10 | apply J11 | apply J12 | apply J13 | apply J14 | apply J15 | apply J16 | apply J17 | apply J18 | apply J19 | apply J20 | refine J2 ?_) | ((with_reducible apply J21); (· rfl)) | ((with_reducible intro hif); first | (focus (cases hif; done)) | (simp only [JH] at hif; try (exfalso; omega)) | (try (exfalso; omega))) | ((first | ((with_reducible apply J22 cO0_ok tab_ok); (· rfl)) | ((with_reducible apply J23 fol cO0_ok tab_ok); (· rfl)) | with_reducible apply J24); (· exact Vm.b104); (try kernel_rfl); (try exact Vm.b103)) | fail)
  refine WF.nilIn 39 5 (evtsS []) 14 87 (.agg [.agg [.int .i64 p.id, .sl 11 11 [] 5 0 p.P.length none, .sl 12 12 [] 1 0 p.cells.length none, .int .i64 p.draws, .int .i64 p.seq, .sl 13 13 [] 1 0 p.ports.length none], .sl 0 0 [] 0 0 0 (some 0), .nat .i64 0]) (dnR p.id p.draws p.seq p.P.length p.cells.length p.ports.length 0 0 11 12 13 15) true (fun _ q => evtsS_stable q) rfl (fun β b0 hβ => by
      have e := nil_cl (k := 5) b0 (show β 15 = (none, 0) from hβ)
      simp only [dnR, SV.cl, SV.den, denL] at e ⊢
      rw [e]) (fun h hb => by
      have k11 := hb 11 (show (11 : Nat) ≤ 15 by decide)
      have k12 := hb 12 (show (12 : Nat) ≤ 15 by decide)
      have k13 := hb 13 (show (13 : Nat) ≤ 15 by decide)
      have k15 := hb 15 (show (15 : Nat) ≤ 15 by decide)
      simp [dnR, Stable, StableL, k11, k12, k13, k15]) rfl (fun n k f e => by cases e) (fun n k f e => by cases e) rfl ?_
  simp only [setH, List.cons_append, List.nil_append]

  repeat' (first | with_reducible (first | apply J1 | apply J3 | apply J4 | apply J5 | apply J6 | apply J7 | apply J8 | apply J9 | apply J10 | apply J11 | apply J12 | apply J13 | apply J14 | apply J15 | apply J16 | apply J17 | apply J18 | apply J19 | apply J20 | refine J2 ?_) | ((with_reducible apply J21); (· rfl)) | ((with_reducible intro hif); first | (focus (cases hif; done)) | (simp only [JH] at hif; try (exfalso; omega)) | (try (exfalso; omega))) | ((first | ((with_reducible apply J22 cOB_ok tab_ok); (· rfl)) | ((with_reducible apply J23 fol cOB_ok tab_ok); (· rfl)) | with_reducible apply J24); (· (simp only [push_cast, ↓JP, Nat.reduceAdd, Nat.reduceEqDiff, Nat.reduceLT, Nat.reduceMul, Nat.reduceLeDiff, reduceCtorEq, reduceIte, ↓JK, JE, prc_eta, cOB, sPCheck, sTakes, sPCopy, pcS, prO, i64O, inO, evm_ev, rHaB, rHaG, donP, dnI, isIns_insS, isI_int, isEvt_evtS, evtOf_evtS, ls_evtsS, ls_evtsS', nodupN, memN, inR, inN, ↓evtS_sz, ↓evtS_ag, ↓evtS_pl, nav_evt, rul_eta, ls_zero, JB, dnS, dnR, dnB, evO_, dn0, hb]; rfl)); (try kernel_rfl); (try exact Vm.b103)) | fail)
  apply At.endsRet tab_ok (fn := Try.f28) (rs := [.cell 6 87, .tmp 7]) Anc.refl hro (Nat.le_of_ble_eq_true rfl) rfl
  · exact Vm.b15
  · exact Vm.b6
  · exact Vm.b7
  · rfl
  · exact Vm.b102
  · exact Vm.b9
  · exact fun β => rfl
  · exact Vm.b102
theorem one_ok (r : Rul) (p : Prc) (e : Evt) (p1 p2 p3 : Nat) (hok : ∀ x ∈ p.P, x.ok) (hn : p.P.length ≤ 1000000) (hc : p.cells.length ≤ 1000000) (hpo : p.ports.length ≤ 1000000) (hE0 : procE r p = 0) (ht : takesB p e = true) (hb : hE r p e = 0) : LitOk Try.prog 28 [.agg [.int .u64 r.seed, .int .i64 r.ahead, .int .i64 r.fuel], .agg [.int .i64 p.id, .sl 1 2 [] 5 0 p.P.length (some p1), .sl 3 4 [] 1 0 p.cells.length (some p2), .int .i64 p.draws, .int .i64 p.seq, .sl 5 6 [] 1 0 p.ports.length (some p3)], evtS e]
    [.gone, .gone, .ro (.arr p.P.length 5 (prS p.P)), .gone, .ro (.arr p.cells.length 1 (i64S p.cells)), .gone, .ro (.arr p.ports.length 1 (i64S p.ports))]
    (.tup [dnS (hS r ⟨p, [], 0⟩ e) 7 8 9 10, .int .i64 0]) [.gone, .gone, .gone, .gone, .gone, .gone, .gone, prO p.P, cB (hR r p e).s, inO p.ports, evO_ (hS r ⟨p, [], 0⟩ e).sent] := by
  have hG := HG.of hE0 ht hok
  have h5 : (0 : Nat) ≤ 1000000 := by decide
  have h6 : (0 : Nat) ≤ 1000000000 := by decide

  refine litOkM (fn := Try.f28) 7 38 0 rfl rfl rfl rfl rfl (by simp only [StableL, Stable, hp, pcS, dnB, DnI.at_, dnS, dnR, i64S, prS, insS, sndsS, sndS, evtsS, evtS, prO, i64O, inO, evO_, cB, sB, HB.stable]; simp [HB.born, evtS]) rfl fun w0 M E hro => ?_
  repeat' (first | with_reducible (first | apply J1 | apply J3 | apply J4 | apply J5 | apply J6 | apply J7 | apply J8 | apply J9 | apply J10 | apply J11 | apply J12 | apply J13 | apply J14 | apply J15 | apply J16 | apply J17 | apply J18 | apply J19 | apply J20 | refine J2 ?_) | ((with_reducible apply J21); (· rfl)) | ((with_reducible intro hif); first | (focus (cases hif; done)) | (simp only [JH] at hif; try (exfalso; omega)) | (try (exfalso; omega))) | ((first | ((with_reducible apply J22 cO0_ok tab_ok); (· rfl)) | ((with_reducible apply J23 fol cO0_ok tab_ok); (· rfl)) | with_reducible apply J24); (· exact Vm.b104); (try kernel_rfl); (try exact Vm.b103)) | fail)
  refine WF.nilIn 39 5 (evtsS []) 14 87 (.agg [.agg [.int .i64 p.id, .sl 11 11 [] 5 0 p.P.length none, .sl 12 12 [] 1 0 p.cells.length none, .int .i64 p.draws, .int .i64 p.seq, .sl 13 13 [] 1 0 p.ports.length none], .sl 0 0 [] 0 0 0 (some 0), .nat .i64 0]) (dnR p.id p.draws p.seq p.P.length p.cells.length p.ports.length 0 0 11 12 13 15) true (fun _ q => evtsS_stable q) rfl (fun β b0 hβ => by
      have e := nil_cl (k := 5) b0 (show β 15 = (none, 0) from hβ)
      simp only [dnR, SV.cl, SV.den, denL] at e ⊢
      rw [e]) (fun h hb => by
      have k11 := hb 11 (show (11 : Nat) ≤ 15 by decide)
      have k12 := hb 12 (show (12 : Nat) ≤ 15 by decide)
      have k13 := hb 13 (show (13 : Nat) ≤ 15 by decide)
      have k15 := hb 15 (show (15 : Nat) ≤ 15 by decide)
      simp [dnR, Stable, StableL, k11, k12, k13, k15]) rfl (fun n k f e => by cases e) (fun n k f e => by cases e) rfl ?_
  simp only [setH, List.cons_append, List.nil_append]

  repeat' (first | with_reducible (first | apply J1 | apply J3 | apply J4 | apply J5 | apply J6 | apply J7 | apply J8 | apply J9 | apply J10 | apply J11 | apply J12 | apply J13 | apply J14 | apply J15 | apply J16 | apply J17 | apply J18 | apply J19 | apply J20 | refine J2 ?_) | ((with_reducible apply J21); (· rfl)) | ((with_reducible intro hif); first | (focus (cases hif; done)) | (simp only [JH] at hif; try (exfalso; omega)) | (try (exfalso; omega))) | ((first | ((with_reducible apply J22 cOG_ok tab_ok); (· rfl)) | ((with_reducible apply J23 fol cOG_ok tab_ok); (· rfl)) | with_reducible apply J24); (· (simp only [push_cast, ↓JP, Nat.reduceAdd, Nat.reduceEqDiff, Nat.reduceLT, Nat.reduceMul, Nat.reduceLeDiff, reduceCtorEq, reduceIte, ↓JK, JE, prc_eta, cOG, sPCheck, sTakes, sPCopy, pcS, prO, i64O, inO, evm_ev, rHaB, rHaG, donP, dnI, isIns_insS, isI_int, isEvt_evtS, evtOf_evtS, ls_evtsS, ls_evtsS', nodupN, memN, inR, inN, ↓evtS_sz, ↓evtS_ag, ↓evtS_pl, nav_evt, rul_eta, ls_zero, JB, dnS, dnR, dnB, evO_, dn0, hb]; rfl)); (try kernel_rfl); (try exact Vm.b103)) | fail)
  apply At.endsPick [0, 1, 2, 3, 4, 5, 6, 11, 16, 13, 17] tab_ok (fn := Try.f28) (rs := [.cell 6 87, .tmp 7]) Anc.refl hro (Nat.le_of_ble_eq_true rfl) rfl
  · exact Vm.b15
  · exact Vm.b21
  · rfl
  · rfl
  · rfl
  · exact Vm.b35
  · rfl
  · exact Vm.b102
  · exact Vm.b9
  · exact fun β => rfl
  · exact Vm.b102
theorem one_err (r : Rul) (p : Prc) (e : Evt) (p1 p2 p3 : Nat) (hok : ∀ x ∈ p.P, x.ok) (hn : p.P.length ≤ 1000000) (hc : p.cells.length ≤ 1000000) (hpo : p.ports.length ≤ 1000000) (h : oneE r p e ≠ 0) : LitOk Try.prog 28 [.agg [.int .u64 r.seed, .int .i64 r.ahead, .int .i64 r.fuel], .agg [.int .i64 p.id, .sl 1 2 [] 5 0 p.P.length (some p1), .sl 3 4 [] 1 0 p.cells.length (some p2), .int .i64 p.draws, .int .i64 p.seq, .sl 5 6 [] 1 0 p.ports.length (some p3)], evtS e]
    [.gone, .gone, .ro (.arr p.P.length 5 (prS p.P)), .gone, .ro (.arr p.cells.length 1 (i64S p.cells)), .gone, .ro (.arr p.ports.length 1 (i64S p.ports))] (.tup [dn0, .int .i64 (oneE r p e)]) [.gone] := by
  unfold oneE at h ⊢
  by_cases h1 : procE r p = 0
  · rw [if_neg (fun h => h h1)] at h ⊢
    cases h2 : takesB p e
    · rw [if_pos rfl]; exact one_tak r p e p1 p2 p3 hok hn hc hpo h1 h2
    · rw [h2] at h
      rw [if_neg Bool.noConfusion] at h ⊢
      exact one_bad r p e p1 p2 p3 hok hn hc hpo h1 h2 h
  · rw [if_pos h1]; exact one_chk r p e p1 p2 p3 hok hn hc hpo h1
theorem oneE_zero {r : Rul} {p : Prc} {e : Evt} (h : oneE r p e = 0) : procE r p = 0 ∧ takesB p e = true ∧ hE r p e = 0 := by
  unfold oneE at h
  by_cases h1 : procE r p = 0
  · rw [if_neg (fun h => h h1)] at h
    cases h2 : takesB p e
    · rw [if_pos h2] at h; cases h
    · rw [if_neg (by rw [h2]; exact Bool.noConfusion)] at h
      exact ⟨h1, rfl, h⟩
  · rw [if_pos h1] at h; exact absurd h h1
def sOneB : Spec := fun args h m => match args with
  | [.agg [v1, v2, v3], .agg [v4, v5, v6, v7, v8, v9], v10] => match srcV h 5 (.tup []) v5, srcV h 1 (.tup []) v6, srcV h 1 (.tup []) v9 with
    | some (c5, n5, f5, r5), some (c6, n6, f6, r6), some (c9, n9, f9, r9) => bif isI .u64 v1 && isI .i64 v2 && isI .i64 v3 && isI .i64 v4 && isI .i64 v7 && isI .i64 v8 && isEvt v10 then some (c5 ∧ c6 ∧ c9 ∧ (∀ q, q < n5 → isIns (f5 q) = true) ∧ (∀ q, q < n6 → isI .i64 (f6 q) = true) ∧ (∀ q, q < n9 → isI .i64 (f9 q) = true) ∧ ((∀ x ∈ (ls insOf n5 f5), x.ok)) ∧ (n5 ≤ 1000000) ∧ (n6 ≤ 1000000) ∧ (n9 ≤ 1000000) ∧ (oneE ⟨(iOf v1), (iOf v2), (iOf v3)⟩ ⟨(iOf v4), (ls insOf n5 f5), (ls iOf n6 f6), (iOf v7), (iOf v8), (ls iOf n9 f9)⟩ (evtOf v10) ≠ 0), .tup [dn0, .int .i64 (oneE ⟨(iOf v1), (iOf v2), (iOf v3)⟩ ⟨(iOf v4), (ls insOf n5 f5), (ls iOf n6 f6), (iOf v7), (iOf v8), (ls iOf n9 f9)⟩ (evtOf v10))], r5 ++ r6 ++ r9, []) else none
    | _, _, _ => none
  | _ => none
theorem sOneB_ok : CallOk Try.prog 28 sOneB := by
  refine ⟨named_spec (by kernel_rfl), fun args h m c v rd wr hs hm hc w0 M β h' w R hrd hwr hst => ?_⟩
  unfold sOneB at hs
  split at hs
  · rename_i v1 v2 v3 v4 v5 v6 v7 v8 v9 v10
    split at hs
    · rename_i c5 n5 f5 r5 c6 n6 f6 r6 c9 n9 f9 r9 a5 a6 a9
      obtain ⟨hb, hs⟩ := bif_some hs
      simp only [Option.some.injEq, Prod.mk.injEq] at hs
      obtain ⟨rfl, rfl, rfl, rfl⟩ := hs
      simp only [Bool.and_eq_true] at hb
      obtain ⟨⟨⟨⟨⟨⟨b1, b2⟩, b3⟩, b4⟩, b7⟩, b8⟩, b10⟩ := hb
      obtain ⟨k5, k6, k9, g5, g6, g9, y1, y2, y3, y4, y5⟩ := hc
      obtain ⟨A5, p5, d5, e5, t5⟩ := reads_src R a5 k5 (fun i hi => hrd i (List.mem_append_left _ (List.mem_append_left _ hi))) (by omega)
      obtain ⟨A6, p6, d6, e6, t6⟩ := reads_src R a6 k6 (fun i hi => hrd i (List.mem_append_left _ (List.mem_append_right _ hi))) (by omega)
      obtain ⟨A9, p9, d9, e9, t9⟩ := reads_src R a9 k9 (fun i hi => hrd i (List.mem_append_right _ hi)) (by omega)
      refine callRo (views := [⟨5, (ls insOf n5 f5).length, prS (ls insOf n5 f5), A5, p5⟩, ⟨1, (ls iOf n6 f6).length, i64S (ls iOf n6 f6), A6, p6⟩, ⟨1, (ls iOf n9 f9).length, i64S (ls iOf n9 f9), A9, p9⟩]) (one_err ⟨(iOf v1), (iOf v2), (iOf v3)⟩ ⟨(iOf v4), (ls insOf n5 f5), (ls iOf n6 f6), (iOf v7), (iOf v8), (ls iOf n9 f9)⟩ (evtOf v10) p5 p6 p9 y1 (by rw [ls_length]; exact y2) (by rw [ls_length]; exact y3) (by rw [ls_length]; exact y4) y5) ?_ R hm hwr ?_ ?_ ?_
      · intro x hx
        simp only [List.mem_cons, List.not_mem_nil, or_false] at hx
        rcases hx with rfl | rfl | rfl
        · exact viewIns t5 e5 g5
        · exact viewI64 t6 e6 g6
        · exact viewI64 t9 e9 g9
      · intro β1 hv
        simp only [Vd, ls_length, and_true] at hv
        obtain ⟨z5, z6, z9⟩ := hv
        simp only [denL, aggDen, intDen, natDen, boolDen, ls_length, z5, z6, z9, d5, d6, d9, isI_den b1, isI_den b2, isI_den b3, isI_den b4, isI_den b7, isI_den b8, den_evtOf b10, den_evtS]
      · exact Vm.b102
      · exact Vm.b102
    · cases hs
  · cases hs
def sOneG : Spec := fun args h m => match args with
  | [.agg [v1, v2, v3], .agg [v4, v5, v6, v7, v8, v9], v10] => match srcV h 5 (.tup []) v5, srcV h 1 (.tup []) v6, srcV h 1 (.tup []) v9 with
    | some (c5, n5, f5, r5), some (c6, n6, f6, r6), some (c9, n9, f9, r9) => bif isI .u64 v1 && isI .i64 v2 && isI .i64 v3 && isI .i64 v4 && isI .i64 v7 && isI .i64 v8 && isEvt v10 then some (c5 ∧ c6 ∧ c9 ∧ (∀ q, q < n5 → isIns (f5 q) = true) ∧ (∀ q, q < n6 → isI .i64 (f6 q) = true) ∧ (∀ q, q < n9 → isI .i64 (f9 q) = true) ∧ ((∀ x ∈ (ls insOf n5 f5), x.ok)) ∧ (n5 ≤ 1000000) ∧ (n6 ≤ 1000000) ∧ (n9 ≤ 1000000) ∧ (oneE ⟨(iOf v1), (iOf v2), (iOf v3)⟩ ⟨(iOf v4), (ls insOf n5 f5), (ls iOf n6 f6), (iOf v7), (iOf v8), (ls iOf n9 f9)⟩ (evtOf v10) = 0), .tup [dnS (hS ⟨(iOf v1), (iOf v2), (iOf v3)⟩ ⟨⟨(iOf v4), (ls insOf n5 f5), (ls iOf n6 f6), (iOf v7), (iOf v8), (ls iOf n9 f9)⟩, [], 0⟩ (evtOf v10)) m (m + 1) (m + 2) (m + 3), .int .i64 0], r5 ++ r6 ++ r9, [(m, prO (ls insOf n5 f5)), (m + 1, cB (hR ⟨(iOf v1), (iOf v2), (iOf v3)⟩ ⟨(iOf v4), (ls insOf n5 f5), (ls iOf n6 f6), (iOf v7), (iOf v8), (ls iOf n9 f9)⟩ (evtOf v10)).s), (m + 2, inO (ls iOf n9 f9)), (m + 3, evO_ (hS ⟨(iOf v1), (iOf v2), (iOf v3)⟩ ⟨⟨(iOf v4), (ls insOf n5 f5), (ls iOf n6 f6), (iOf v7), (iOf v8), (ls iOf n9 f9)⟩, [], 0⟩ (evtOf v10)).sent)]) else none
    | _, _, _ => none
  | _ => none
theorem sOneG_ok : CallOk Try.prog 28 sOneG := by
  refine ⟨named_spec (by kernel_rfl), fun args h m c v rd wr hs hm hc w0 M β h' w R hrd hwr hst => ?_⟩
  unfold sOneG at hs
  split at hs
  · rename_i v1 v2 v3 v4 v5 v6 v7 v8 v9 v10
    split at hs
    · rename_i c5 n5 f5 r5 c6 n6 f6 r6 c9 n9 f9 r9 a5 a6 a9
      obtain ⟨hb, hs⟩ := bif_some hs
      simp only [Option.some.injEq, Prod.mk.injEq] at hs
      obtain ⟨rfl, rfl, rfl, rfl⟩ := hs
      simp only [Bool.and_eq_true] at hb
      obtain ⟨⟨⟨⟨⟨⟨b1, b2⟩, b3⟩, b4⟩, b7⟩, b8⟩, b10⟩ := hb
      obtain ⟨k5, k6, k9, g5, g6, g9, y1, y2, y3, y4, y5⟩ := hc
      obtain ⟨A5, p5, d5, e5, t5⟩ := reads_src R a5 k5 (fun i hi => hrd i (List.mem_append_left _ (List.mem_append_left _ hi))) (by omega)
      obtain ⟨A6, p6, d6, e6, t6⟩ := reads_src R a6 k6 (fun i hi => hrd i (List.mem_append_left _ (List.mem_append_right _ hi))) (by omega)
      obtain ⟨A9, p9, d9, e9, t9⟩ := reads_src R a9 k9 (fun i hi => hrd i (List.mem_append_right _ hi)) (by omega)
      refine callRo (views := [⟨5, (ls insOf n5 f5).length, prS (ls insOf n5 f5), A5, p5⟩, ⟨1, (ls iOf n6 f6).length, i64S (ls iOf n6 f6), A6, p6⟩, ⟨1, (ls iOf n9 f9).length, i64S (ls iOf n9 f9), A9, p9⟩]) (one_ok ⟨(iOf v1), (iOf v2), (iOf v3)⟩ ⟨(iOf v4), (ls insOf n5 f5), (ls iOf n6 f6), (iOf v7), (iOf v8), (ls iOf n9 f9)⟩ (evtOf v10) p5 p6 p9 y1 (by rw [ls_length]; exact y2) (by rw [ls_length]; exact y3) (by rw [ls_length]; exact y4) (oneE_zero y5).1 (oneE_zero y5).2.1 (oneE_zero y5).2.2) ?_ R hm hwr ?_ ?_ ?_
      · intro x hx
        simp only [List.mem_cons, List.not_mem_nil, or_false] at hx
        rcases hx with rfl | rfl | rfl
        · exact viewIns t5 e5 g5
        · exact viewI64 t6 e6 g6
        · exact viewI64 t9 e9 g9
      · intro β1 hv
        simp only [Vd, ls_length, and_true] at hv
        obtain ⟨z5, z6, z9⟩ := hv
        simp only [denL, aggDen, intDen, natDen, boolDen, ls_length, z5, z6, z9, d5, d6, d9, isI_den b1, isI_den b2, isI_den b3, isI_den b4, isI_den b7, isI_den b8, den_evtOf b10, den_evtS]
      · exact Vm.b102
      · exact Vm.b102
    · cases hs
  · cases hs
end Go.Proofs.Ytjliakjbdcplcaa.Vm
end

section
namespace Go.Proofs.Ytjliakjbdcplcaa.Vm
open Go.RowKit
set_option linter.unusedVariables false
set_option linter.unusedSimpArgs false
def kcE (a b : Evt) : Int × Int := kcmp a.time a.source a.seq b.time b.source b.seq
def badAt (p : Prc) (l : List Evt) (i : Nat) : Int := if takesB p (l.getD i ⟨0, 0, 0, 0, 0⟩) = false then 282 else if 0 < i ∧ 0 ≤ (kcE (l.getD (i - 1) ⟨0, 0, 0, 0, 0⟩) (l.getD i ⟨0, 0, 0, 0, 0⟩)).1 then 283 else 0
def foldD (r : Rul) (D : Dn) (l : List Evt) : Dn := l.foldl (hS r) D
theorem foldD_snoc (r : Rul) (D : Dn) (l : List Evt) (e : Evt) : foldD r D (l ++ [e]) = hS r (foldD r D l) e := by simp [foldD]
theorem foldD_nil (r : Rul) (D : Dn) : foldD r D [] = D := rfl
def AllK (r : Rul) (D : Dn) (l : List Evt) (k : Nat) : Prop := ∀ i, i < k → hE r (foldD r D (l.take i)).p (l.getD i ⟨0, 0, 0, 0, 0⟩) = 0
theorem take_snoc {α : Type} {l : List α} {k : Nat} (d : α) (hk : k < l.length) : l.take (k + 1) = l.take k ++ [l.getD k d] := by
  rw [List.getD_eq_getElem?_getD, List.getElem?_eq_getElem hk, List.take_add_one, List.getElem?_eq_getElem hk]; rfl
theorem HG.next {r : Rul} {D : Dn} {e : Evt} (h : HG r D.p e) (h0 : hE r D.p e = 0) : (hS r D e).p.rightB = true ∧ (hS r D e).p.P = D.p.P ∧ (hS r D e).p.id = D.p.id ∧ (hS r D e).p.ports = D.p.ports ∧ (hS r D e).p.cells.length = D.p.cells.length ∧ D.p.draws ≤ (hS r D e).p.draws ∧ (hS r D e).p.seq = D.p.seq + (hR r D.p e).s.sends.length ∧ (hS r D e).sent.length = D.sent.length + (hR r D.p e).s.sends.length ∧ (hR r D.p e).s.sends.length ≤ (hR r D.p e).tr.length ∧ (hS r D e).used = D.used + (hR r D.p e).tr.length := by
  obtain ⟨hb, hg, hq⟩ := hE_zero h0
  obtain ⟨hI, hG⟩ := h.si hb
  obtain ⟨h1, h2, h4, h5, h6, h7, h8, h9, h10⟩ := rightB_iff.1 h.hp
  have hl := hI.l
  have hd := hI.d
  have hn := hI.n
  have hc : cnt D.p.P 8 (hR r D.p e).tr ≤ (hR r D.p e).tr.length := List.length_filter_le _ _
  refine ⟨rightB_iff.2 ⟨h1, h2, ?_, ?_, ?_, ?_, ?_, h9, h10⟩, rfl, rfl, rfl, hl, ?_, rfl, ?_, by omega, rfl⟩
  · show (hR r D.p e).s.cells.length ≤ 1024; omega
  · exact hG.d0
  · exact hG.d1
  · show 0 ≤ D.p.seq + ((hR r D.p e).s.sends.length : Int); omega
  · show D.p.seq + ((hR r D.p e).s.sends.length : Int) ≤ 4294967296; omega
  · show D.p.draws ≤ (hR r D.p e).s.draws; omega
  · show (D.sent ++ _).length = _; rw [List.length_append, sentL_len]
structure FI (r : Rul) (p : Prc) (l : List Evt) (k : Nat) (D : Dn) : Prop where
  hp : D.p.rightB = true
  P : D.p.P = p.P
  id : D.p.id = p.id
  po : D.p.ports = p.ports
  cl : D.p.cells.length = p.cells.length
  dr : p.draws ≤ D.p.draws
  sq : D.p.seq = p.seq + (D.sent.length : Int)
  su : D.sent.length ≤ D.used
  us : (D.used : Int) ≤ r.fuel * k
theorem fi_zero {r : Rul} {p : Prc} {l : List Evt} (hp : p.rightB = true) : FI r p l 0 ⟨p, [], 0⟩ := ⟨hp, rfl, rfl, rfl, rfl, Int.le_refl _, by simp, Nat.le_refl _, by simp⟩
theorem FI.hg {r : Rul} {p : Prc} {l : List Evt} {k : Nat} {D : Dn} (h : FI r p l k D) (hr : r.rightB = true) (hok : ∀ x ∈ p.P, x.ok) {e : Evt} (ht : takesB p e = true) : HG r D.p e :=
  ⟨hr, h.hp, by rw [h.P]; exact hok, (takes_key ht).1, (takes_key ht).2⟩
theorem FI.step {r : Rul} {p : Prc} {l : List Evt} {k : Nat} {D : Dn} (h : FI r p l k D) (hr : r.rightB = true) (hok : ∀ x ∈ p.P, x.ok) {e : Evt} (ht : takesB p e = true) (h0 : hE r D.p e = 0) : FI r p l (k + 1) (hS r D e) := by
  have G := h.hg hr hok ht
  obtain ⟨n1, n2, n3, n4, n5, n6, n7, n8, n9, n10⟩ := G.next h0
  have hl := G.len
  refine ⟨n1, n2.trans h.P, n3.trans h.id, n4.trans h.po, n5.trans h.cl, Int.le_trans h.dr n6, by rw [n7, n8, h.sq]; omega, by rw [n8, n10]; have := h.su; omega, ?_⟩
  have := h.us
  rw [n10]
  have e1 : r.fuel * ((k + 1 : Nat) : Int) = r.fuel * (k : Int) + r.fuel := by
    rw [show ((k + 1 : Nat) : Int) = (k : Int) + 1 by omega, Int.mul_add, Int.mul_one]
  rw [e1]
  omega
theorem badAt_takes {p : Prc} {l : List Evt} {i : Nat} (h : badAt p l i = 0) : takesB p (l.getD i ⟨0, 0, 0, 0, 0⟩) = true := by
  unfold badAt at h
  cases ht : takesB p (l.getD i ⟨0, 0, 0, 0, 0⟩)
  · rw [if_pos ht] at h; cases h
  · rfl
theorem fi_all {r : Rul} {p : Prc} {l : List Evt} (hE0 : procE r p = 0) (hok : ∀ x ∈ p.P, x.ok) (hB : ∀ q, q < l.length → badAt p l q = 0) : ∀ k, k ≤ l.length → AllK r ⟨p, [], 0⟩ l k → FI r p l k (foldD r ⟨p, [], 0⟩ (l.take k))
  | 0, _, _ => by rw [List.take_zero, foldD_nil]; exact fi_zero (procE_zero hE0).2
  | k + 1, hk, hA => by
    have ih := fi_all hE0 hok hB k (by omega) (fun i hi => hA i (by omega))
    rw [take_snoc ⟨0, 0, 0, 0, 0⟩ (by omega), foldD_snoc]
    exact ih.step (procE_zero hE0).1 hok (badAt_takes (hB k (by omega))) (hA k (by omega))
end Go.Proofs.Ytjliakjbdcplcaa.Vm
end

section
namespace Go.Proofs.Ytjliakjbdcplcaa.Vm
open Go.RowKit
set_option linter.unusedVariables false
set_option linter.unusedSimpArgs false
structure ESm where
  more : Int
  source : Int
  value : Int
deriving DecidableEq
def ESm.cells (e : ESm) : List Value := [.int .u8 e.more, .int .u8 e.source, .int .i64 e.value]
structure ESm.ok (e : ESm) : Prop where
  m0 : 0 ≤ e.more
  m1 : e.more ≤ 255
  s0 : 0 ≤ e.source
  s1 : e.source ≤ 255
def lastE (l : List Evt) : Evt := l.getD (l.length - 1) ⟨0, 0, 0, 0, 0⟩
structure MI (id : Int) (k : Nat) (S : Int × List Evt) : Prop where
  n : S.2.length = k
  t0 : 1 ≤ S.1
  t1 : S.1 ≤ 1 + 255 * (k : Int)
  l : 0 < k → (lastE S.2).time = S.1 ∧ 0 ≤ (lastE S.2).source ∧ (lastE S.2).source ≤ 16
  b : ∀ q, q < k → (keyB (S.2.getD q ⟨0, 0, 0, 0, 0⟩).time (S.2.getD q ⟨0, 0, 0, 0, 0⟩).source (S.2.getD q ⟨0, 0, 0, 0, 0⟩).seq = true ∧ (S.2.getD q ⟨0, 0, 0, 0, 0⟩).to_ = id ∧ 1 ≤ (S.2.getD q ⟨0, 0, 0, 0, 0⟩).time ∧ (S.2.getD q ⟨0, 0, 0, 0, 0⟩).seq = q) ∧ (0 < q → (kcE (S.2.getD (q - 1) ⟨0, 0, 0, 0, 0⟩) (S.2.getD q ⟨0, 0, 0, 0, 0⟩)).1 = -1)
theorem getD_app_lt {α : Type} {l m : List α} {q : Nat} {d : α} (h : q < l.length) : (l ++ m).getD q d = l.getD q d := by
  rw [List.getD_eq_getElem?_getD, List.getD_eq_getElem?_getD, List.getElem?_append_left h]
end Go.Proofs.Ytjliakjbdcplcaa.Vm
end

section
namespace Go.Proofs.Ytjliakjbdcplcaa.Vm
open Go.RowKit
set_option linter.unusedVariables false
set_option linter.unusedSimpArgs false
set_option maxRecDepth 100000
end Go.Proofs.Ytjliakjbdcplcaa.Vm
end

section
namespace Go.Proofs.Ytjliakjbdcplcaa.Vm
open Go.RowKit
set_option linter.unusedVariables false
set_option linter.unusedSimpArgs false
set_option maxRecDepth 100000
set_option maxHeartbeats 4000000
end Go.Proofs.Ytjliakjbdcplcaa.Vm
end

section
namespace Go.Proofs.Ytjliakjbdcplcaa.Vm
open Go.RowKit
set_option linter.unusedVariables false
set_option linter.unusedSimpArgs false
set_option maxRecDepth 100000
set_option maxHeartbeats 4000000
end Go.Proofs.Ytjliakjbdcplcaa.Vm
end

section
namespace Go.Proofs.Ytjliakjbdcplcaa.Vm
open Go.RowKit
set_option linter.unusedVariables false
set_option linter.unusedSimpArgs false
set_option maxRecDepth 100000
set_option maxHeartbeats 4000000
end Go.Proofs.Ytjliakjbdcplcaa.Vm
end

section
namespace Go.Proofs.Ytjliakjbdcplcaa.Vm
open Go.RowKit
set_option linter.unusedVariables false
set_option linter.unusedSimpArgs false
set_option maxRecDepth 100000
set_option maxHeartbeats 4000000
section
variable {ρ : Nat → Nat} {h h' : HM} {a b c i j x y : Nat} {s : Sta} {v : Evi} {P : List Ins} {ok : Prop}
end
end Go.Proofs.Ytjliakjbdcplcaa.Vm
end

section
namespace Go.Proofs.Ytjliakjbdcplcaa.Vm
open Go.RowKit
set_option linter.unusedVariables false
set_option linter.unusedSimpArgs false
set_option maxRecDepth 100000
set_option maxHeartbeats 4000000
end Go.Proofs.Ytjliakjbdcplcaa.Vm
end

section
namespace Go.Proofs.Ytjliakjbdcplcaa.Vm
open Go.RowKit
set_option linter.unusedVariables false
set_option linter.unusedSimpArgs false
set_option maxRecDepth 100000
set_option maxHeartbeats 4000000
end Go.Proofs.Ytjliakjbdcplcaa.Vm
end

section
namespace Go.Proofs.Ytjliakjbdcplcaa.Vm
open Go.RowKit
set_option linter.unusedVariables false
set_option linter.unusedSimpArgs false
set_option maxRecDepth 100000
set_option maxHeartbeats 4000000
end Go.Proofs.Ytjliakjbdcplcaa.Vm
end

section
namespace Go.Proofs.Ytjliakjbdcplcaa.Vm
open Go.RowKit
set_option linter.unusedVariables false
set_option linter.unusedSimpArgs false
set_option maxRecDepth 100000
end Go.Proofs.Ytjliakjbdcplcaa.Vm
end

section
namespace Go.Proofs.Ytjliakjbdcplcaa.Vm
open Go.RowKit
set_option linter.unusedVariables false
set_option linter.unusedSimpArgs false
set_option maxRecDepth 100000
end Go.Proofs.Ytjliakjbdcplcaa.Vm
end

section
namespace Go.Proofs.Ytjliakjbdcplcaa.Vm
open Go.RowKit
set_option linter.unusedVariables false
set_option linter.unusedSimpArgs false
set_option maxRecDepth 100000
set_option maxHeartbeats 4000000
end Go.Proofs.Ytjliakjbdcplcaa.Vm
end

section
namespace Go.Proofs.Ytjliakjbdcplcaa.Vm
open Go.RowKit
set_option linter.unusedVariables false
set_option linter.unusedSimpArgs false
set_option maxRecDepth 100000
set_option maxHeartbeats 4000000
def capB : SV → Prop
  | .sl _ _ _ _ _ n (some cp) => max n cp ≤ 9223372036854775807
  | _ => False
end Go.Proofs.Ytjliakjbdcplcaa.Vm
end
end

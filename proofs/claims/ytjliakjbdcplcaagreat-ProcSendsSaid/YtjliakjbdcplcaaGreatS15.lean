import Derived.Test.YtjliakjbdcplcaaGreatS5
import Derived.Test.YtjliakjbdcplcaaGreatS6
import Derived.Test.YtjliakjbdcplcaaGreatS7
import Derived.Test.YtjliakjbdcplcaaGreatS8
import Derived.Test.YtjliakjbdcplcaaGreatS9
import Derived.Test.YtjliakjbdcplcaaGreatS11
import Derived.Test.YtjliakjbdcplcaaGreatS14
section
namespace Go.Proofs.YtjliakjbdcplcaaGreat.Vm
theorem b105 {P : Prop} (h : P := by (repeat' (first | exact trivial | exact rfl | assumption | apply Stable.ite | apply And.intro | intro _ | (simp only [Stable, StableL, pcS, dnB, DnI.at_, dnS, dnR, i64S, prS, insS, sndsS, sndS, evtsS, evtS, prO, i64O, inO, evO_, cB, sB, HB.stable]; done)))) : P := h
theorem b106 {P : Prop} (h : P := by rw [Nat.min_eq_left h, List.take_of_length_le (Nat.le_refl _), List.take_of_length_le h]) : P := h
theorem b107 {P : Prop} (h : P := by (repeat' (first | exact trivial | exact rfl | assumption | apply Stable.ite | apply And.intro | intro _ | (simp only [Stable, StableL, i64S, prS, insS, sndsS, sndS, stS, evS, macS, HB.stable]; done)))) : P := h
theorem b108 {P : Prop} (h : P := by (repeat' (first | exact trivial | exact .inl rfl | exact .inr (.same _) | exact .inr .loose | exact .inr (.arr (by assumption)) | apply And.intro | (exact .inr (hY _)) | (exact .inr (hY0 _)) | (rw [nilS_f hne]; exact .inr (by simp only [mSnd_len]; exact .same _)) | (exact .inr (by rw [hm1]; exact .same _))))) : P := h
theorem b109 {P : Prop} (h : P := by (first | exact True.intro | ((try simp only [JS, implies_true, forall_const, shaped, shapedL, kndOf, ls_prS, ls_prS', ls_i64S', ls_i64S, ls_evtsS', ls_evtsS, ls_length, evtOf_evtS, prc_eta, iOf]); (repeat' (first | exact True.intro | assumption | omega | apply And.intro | rfl | decide | intro _)); done) | ((try simp only [JS, implies_true, forall_const, shaped, shapedL, kndOf]); (repeat' (first | assumption | exact True.intro | omega | apply And.intro)); done))) : P := h
theorem b110 {P : Prop} (h : P := by (simp only [push_cast, ↓JP, Nat.reduceAdd, Nat.reduceEqDiff, Nat.reduceLT, Nat.reduceMul, Nat.reduceLeDiff, reduceCtorEq, reduceIte, ↓JK, cO0, evm_ev, ↓evtS_sz, ↓evtS_ag, ↓evtS_pl, nav_evt, rul_eta, ls_zero, JB, dnS, dnR, dnB, evO_, dn0, hE0, ht]; rfl)) : P := h
theorem b111 {P : Prop} (h : P := by (simp only [push_cast, ↓JP, Nat.reduceAdd, Nat.reduceEqDiff, Nat.reduceLT, Nat.reduceMul, Nat.reduceLeDiff, reduceCtorEq, reduceIte, ↓JK, JM, JE, cM18, sCl64, inR, inN, Nat.sub_zero, hm2, hm2', hlt2]; rfl)) : P := h
end Go.Proofs.YtjliakjbdcplcaaGreat.Vm
end
section
namespace Go.Proofs.YtjliakjbdcplcaaGreat.Vm
open Go.RowKit
attribute [local push_cast] runR opG gtmp gval gus opX tmpsOf tm tmO tmP restr look look2 tab tys zs ets eqB eqBL allB numOf ieq Int.cast_ofNat_Int Int.ofNat_zero beq_true beq_false frameOf ev evL ofV opV loadV noW pushF wrsL setH allBorn allGone HB.born HB.isGone HB.val SV.plain dstOk hp nav fitsT SV.size sizeL SV.isAgg TK.size TK.agg bin binE binN binI arN arI cmpN cmpI keq kn narrow callV storeV setp fillV buildV buildSliceV makeV sliceV appendV appendFV slice3V copyV List.isEmpty_nil srcV evO asN ite_t ite_f ite_bool ite_int ite_nat maxV v_beq v_ble v_blt cond_true cond_false List.getElem?_cons_zero List.getElem?_cons_succ List.getD_cons_zero List.getD_cons_succ List.getD_nil List.length_cons List.length_nil List.take_succ_cons List.take_zero List.set_cons_zero List.set_cons_succ List.cons_append List.nil_append List.append_assoc List.replicate_succ List.replicate_zero Nat.zero_add Nat.add_zero decide_true decide_false Bool.true_and Bool.and_true Bool.false_and Bool.and_false Bool.true_or Bool.or_true Bool.false_or Bool.or_false beq_self_eq_true Bool.or_self Nat.lt_irrefl Nat.not_lt_zero Nat.le_refl Option.getD_some Option.getD_none BEq.rfl Bool.not_true Bool.not_false Bool.cond_true_left Bool.cond_false_right prS sndsS i64S nav_ins nav_ins0 nav_ins1 nav_ins2 nav_ins3 nav_ins4 nav_snd nav_snd0 nav_snd1 nav_snd2 isIns_insS insOf_insS isSnd_sndS sndOf_sndS isI_int isI_nat iOf JE prc_eta sPCheck sTakes sPCopy pcS prO i64O inO rHaB rHaG donP dnI isEvt_evtS evtOf_evtS ls_evtsS ls_evtsS' nodupN memN inR inN
set_option linter.unusedVariables false
set_option linter.unusedSimpArgs false
set_option maxRecDepth 100000
set_option maxHeartbeats 4000000
def dn0 : SV := .agg [.agg [.nat .i64 0, .sl 0 0 [] 0 0 0 (some 0), .sl 0 0 [] 0 0 0 (some 0), .nat .i64 0, .nat .i64 0, .sl 0 0 [] 0 0 0 (some 0)], .sl 0 0 [] 0 0 0 (some 0), .nat .i64 0]
def oneE (r : Rul) (p : Prc) (e : Evt) : Int := if procE r p ≠ 0 then procE r p else if takesB p e = false then 282 else hE r p e
theorem procE_zero {r : Rul} {p : Prc} (h : procE r p = 0) : r.rightB = true ∧ p.rightB = true := by
  unfold procE at h
  cases hr : r.rightB
  · rw [if_pos hr] at h; cases h
  · rw [if_neg (by rw [hr]; exact Bool.noConfusion)] at h
    cases hp : p.rightB
    · rw [if_pos hp] at h; cases h
    · exact ⟨rfl, rfl⟩
theorem takes_key {p : Prc} {e : Evt} (h : takesB p e = true) : 0 ≤ e.time ∧ e.time ≤ 281474976710656 := by
  unfold takesB at h
  rw [Bool.and_eq_true] at h
  have := of_decide_eq_true (show decide _ = true from h.1)
  exact ⟨this.1, this.2.1⟩
theorem HG.of {r : Rul} {p : Prc} {e : Evt} (h : procE r p = 0) (ht : takesB p e = true) (hok : ∀ x ∈ p.P, x.ok) : HG r p e := ⟨(procE_zero h).1, (procE_zero h).2, hok, (takes_key ht).1, (takes_key ht).2⟩
theorem rul_eta (r : Rul) : Rul.mk r.seed r.ahead r.fuel = r := rfl
theorem nil_cl {β : Env} {x : Nat} (h0 : β 0 = (none, 0)) (hx : β x = (none, 0)) (k : Nat) : (SV.sl x x [] k 0 0 none).den β = (SV.sl 0 0 [] 0 0 0 (some 0)).den β := by simp [SV.den, h0, hx]
def cO0 : FuncId → Option Spec := look2 [(30, sPCheck), (74, sTakes), (71, sPCopy)]
theorem cO0_ok : ∀ f S, cO0 f = some S → CallOk Tryz.prog f S := allOk_spec ⟨sPCheck_ok, sTakes_ok, sPCopy_ok, trivial⟩
def cOB : FuncId → Option Spec := look2 [(30, sPCheck), (74, sTakes), (71, sPCopy), (96, rHaB)]
theorem cOB_ok : ∀ f S, cOB f = some S → CallOk Tryz.prog f S := allOk_spec ⟨sPCheck_ok, sTakes_ok, sPCopy_ok, rHaB_ok, trivial⟩
def cOG : FuncId → Option Spec := look2 [(30, sPCheck), (74, sTakes), (71, sPCopy), (96, rHaG)]
theorem cOG_ok : ∀ f S, cOG f = some S → CallOk Tryz.prog f S := allOk_spec ⟨sPCheck_ok, sTakes_ok, sPCopy_ok, rHaG_ok, trivial⟩
theorem evm_ev (i : Evt) (a : Bool → SV → Option (Prop × SV)) (b : SV → Option (Prop × SV)) (c : Unit → Option (Prop × SV)) : ev.match_1 (fun _ => Option (Prop × SV)) (some (evtS i)) a b c = b (evtS i) := rfl
theorem evtS_sz (e : Evt) : (evtS e).size = 5 := rfl
theorem evtS_ag (e : Evt) : (evtS e).isAgg = true := rfl
theorem evtS_pl (e : Evt) : (evtS e).plain = true := rfl
theorem nav_evt (e : Evt) : nav (evtS e) [] = some (True, evtS e) := rfl
theorem one_chk (r : Rul) (p : Prc) (e : Evt) (p1 p2 p3 : Nat) (hok : ∀ x ∈ p.P, x.ok) (hn : p.P.length ≤ 1000000) (hc : p.cells.length ≤ 1000000) (hpo : p.ports.length ≤ 1000000) (hE0 : procE r p ≠ 0) : LitOk Tryz.prog 59 [.agg [.int .u64 r.seed, .int .i64 r.ahead, .int .i64 r.fuel], .agg [.int .i64 p.id, .sl 1 2 [] 5 0 p.P.length (some p1), .sl 3 4 [] 1 0 p.cells.length (some p2), .int .i64 p.draws, .int .i64 p.seq, .sl 5 6 [] 1 0 p.ports.length (some p3)], evtS e]
    [.gone, .gone, .ro (.arr p.P.length 5 (prS p.P)), .gone, .ro (.arr p.cells.length 1 (i64S p.cells)), .gone, .ro (.arr p.ports.length 1 (i64S p.ports))]
    (.tup [dn0, .int .i64 (procE r p)]) [.gone] := by

  refine litOkM (fn := Tryz.f59) 7 38 0 rfl rfl rfl rfl rfl (by simp only [StableL, Stable, hp, pcS, dnB, DnI.at_, dnS, dnR, i64S, prS, insS, sndsS, sndS, evtsS, evtS, prO, i64O, inO, evO_, cB, sB, HB.stable]; simp [HB.born, evtS]) rfl fun w0 M E hro => ?_
  repeat' (first | refine Ctl.h ?_ | ((with_reducible intro hif); first | (focus (cases hif; done)) | (simp only [JH] at hif; try (exfalso; omega)) | (try (exfalso; omega))) | ((first | ((with_reducible apply J22 cO0_ok tab_ok); (· rfl)) | ((with_reducible apply J23 fol cO0_ok tab_ok); (· rfl)) | with_reducible apply J24); (· (simp only [push_cast, ↓JP, Nat.reduceAdd, Nat.reduceEqDiff, Nat.reduceLT, Nat.reduceMul, Nat.reduceLeDiff, reduceCtorEq, reduceIte, ↓JK, cO0, evm_ev, ↓evtS_sz, ↓evtS_ag, ↓evtS_pl, nav_evt, hE0]; rfl)); (try kernel_rfl); (try exact Vm.b109)) | fail)
  apply At.endsRet tab_ok (fn := Tryz.f59) (rs := [.cell 6 82, .tmp 7]) Anc.refl hro (Nat.le_of_ble_eq_true rfl) rfl
  · exact Vm.b18
  · exact Vm.b7
  · exact Vm.b8
  · rfl
  · exact Vm.b105
  · exact Vm.b10
  · exact fun β => rfl
  · exact Vm.b105
theorem one_tak (r : Rul) (p : Prc) (e : Evt) (p1 p2 p3 : Nat) (hok : ∀ x ∈ p.P, x.ok) (hn : p.P.length ≤ 1000000) (hc : p.cells.length ≤ 1000000) (hpo : p.ports.length ≤ 1000000) (hE0 : procE r p = 0) (ht : takesB p e = false) : LitOk Tryz.prog 59 [.agg [.int .u64 r.seed, .int .i64 r.ahead, .int .i64 r.fuel], .agg [.int .i64 p.id, .sl 1 2 [] 5 0 p.P.length (some p1), .sl 3 4 [] 1 0 p.cells.length (some p2), .int .i64 p.draws, .int .i64 p.seq, .sl 5 6 [] 1 0 p.ports.length (some p3)], evtS e]
    [.gone, .gone, .ro (.arr p.P.length 5 (prS p.P)), .gone, .ro (.arr p.cells.length 1 (i64S p.cells)), .gone, .ro (.arr p.ports.length 1 (i64S p.ports))]
    (.tup [dn0, .int .i64 282]) [.gone] := by

  refine litOkM (fn := Tryz.f59) 7 38 0 rfl rfl rfl rfl rfl (by simp only [StableL, Stable, hp, pcS, dnB, DnI.at_, dnS, dnR, i64S, prS, insS, sndsS, sndS, evtsS, evtS, prO, i64O, inO, evO_, cB, sB, HB.stable]; simp [HB.born, evtS]) rfl fun w0 M E hro => ?_
  repeat' (first | refine Ctl.h ?_ | ((with_reducible intro hif); first | (focus (cases hif; done)) | (simp only [JH] at hif; try (exfalso; omega)) | (try (exfalso; omega))) | ((first | ((with_reducible apply J22 cO0_ok tab_ok); (· rfl)) | ((with_reducible apply J23 fol cO0_ok tab_ok); (· rfl)) | with_reducible apply J24); (· (simp only [push_cast, ↓JP, Nat.reduceAdd, Nat.reduceEqDiff, Nat.reduceLT, Nat.reduceMul, Nat.reduceLeDiff, reduceCtorEq, reduceIte, ↓JK, cO0, evm_ev, ↓evtS_sz, ↓evtS_ag, ↓evtS_pl, nav_evt, hE0, ht]; rfl)); (try kernel_rfl); (try exact Vm.b109)) | fail)
  apply At.endsRet tab_ok (fn := Tryz.f59) (rs := [.cell 6 82, .tmp 7]) Anc.refl hro (Nat.le_of_ble_eq_true rfl) rfl
  · exact Vm.b18
  · exact Vm.b7
  · exact Vm.b8
  · rfl
  · exact Vm.b105
  · exact Vm.b10
  · exact fun β => rfl
  · exact Vm.b105
theorem one_bad (r : Rul) (p : Prc) (e : Evt) (p1 p2 p3 : Nat) (hok : ∀ x ∈ p.P, x.ok) (hn : p.P.length ≤ 1000000) (hc : p.cells.length ≤ 1000000) (hpo : p.ports.length ≤ 1000000) (hE0 : procE r p = 0) (ht : takesB p e = true) (hb : hE r p e ≠ 0) : LitOk Tryz.prog 59 [.agg [.int .u64 r.seed, .int .i64 r.ahead, .int .i64 r.fuel], .agg [.int .i64 p.id, .sl 1 2 [] 5 0 p.P.length (some p1), .sl 3 4 [] 1 0 p.cells.length (some p2), .int .i64 p.draws, .int .i64 p.seq, .sl 5 6 [] 1 0 p.ports.length (some p3)], evtS e]
    [.gone, .gone, .ro (.arr p.P.length 5 (prS p.P)), .gone, .ro (.arr p.cells.length 1 (i64S p.cells)), .gone, .ro (.arr p.ports.length 1 (i64S p.ports))]
    (.tup [dn0, .int .i64 (hE r p e)]) [.gone] := by
  have hG := HG.of hE0 ht hok
  have h5 : (0 : Nat) ≤ 1000000 := by decide
  have h6 : (0 : Nat) ≤ 1000000000 := by decide

  refine litOkM (fn := Tryz.f59) 7 38 0 rfl rfl rfl rfl rfl (by simp only [StableL, Stable, hp, pcS, dnB, DnI.at_, dnS, dnR, i64S, prS, insS, sndsS, sndS, evtsS, evtS, prO, i64O, inO, evO_, cB, sB, HB.stable]; simp [HB.born, evtS]) rfl fun w0 M E hro => ?_
  repeat' (first | refine Ctl.h ?_ | ((with_reducible intro hif); first | (focus (cases hif; done)) | (simp only [JH] at hif; try (exfalso; omega)) | (try (exfalso; omega))) | ((first | ((with_reducible apply J22 cO0_ok tab_ok); (· rfl)) | ((with_reducible apply J23 fol cO0_ok tab_ok); (· rfl)) | with_reducible apply J24); (· exact Vm.b110); (try kernel_rfl); (try exact Vm.b109)) | fail)
  refine WF.nilIn 29 5 (evtsS []) 14 82 (.agg [.agg [.int .i64 p.id, .sl 11 11 [] 5 0 p.P.length none, .sl 12 12 [] 1 0 p.cells.length none, .int .i64 p.draws, .int .i64 p.seq, .sl 13 13 [] 1 0 p.ports.length none], .sl 0 0 [] 0 0 0 (some 0), .nat .i64 0]) (dnR p.id p.draws p.seq p.P.length p.cells.length p.ports.length 0 0 11 12 13 15) true (fun _ q => evtsS_stable q) rfl (fun β b0 hβ => by
      have e := nil_cl (k := 5) b0 (show β 15 = (none, 0) from hβ)
      simp only [dnR, SV.cl, SV.den, denL] at e ⊢
      rw [e]) (fun h hb => by
      have k11 := hb 11 (show (11 : Nat) ≤ 15 by decide)
      have k12 := hb 12 (show (12 : Nat) ≤ 15 by decide)
      have k13 := hb 13 (show (13 : Nat) ≤ 15 by decide)
      have k15 := hb 15 (show (15 : Nat) ≤ 15 by decide)
      simp [dnR, Stable, StableL, k11, k12, k13, k15]) rfl (fun n k f e => by cases e) (fun n k f e => by cases e) rfl ?_
  simp only [setH, List.cons_append, List.nil_append]

  repeat' (first | refine Ctl.h ?_ | ((with_reducible intro hif); first | (focus (cases hif; done)) | (simp only [JH] at hif; try (exfalso; omega)) | (try (exfalso; omega))) | ((first | ((with_reducible apply J22 cOB_ok tab_ok); (· rfl)) | ((with_reducible apply J23 fol cOB_ok tab_ok); (· rfl)) | with_reducible apply J24); (· (simp only [push_cast, ↓JP, Nat.reduceAdd, Nat.reduceEqDiff, Nat.reduceLT, Nat.reduceMul, Nat.reduceLeDiff, reduceCtorEq, reduceIte, ↓JK, cOB, evm_ev, ↓evtS_sz, ↓evtS_ag, ↓evtS_pl, nav_evt, rul_eta, ls_zero, JB, dnS, dnR, dnB, evO_, dn0, hb]; rfl)); (try kernel_rfl); (try exact Vm.b109)) | fail)
  apply At.endsRet tab_ok (fn := Tryz.f59) (rs := [.cell 6 82, .tmp 7]) Anc.refl hro (Nat.le_of_ble_eq_true rfl) rfl
  · exact Vm.b18
  · exact Vm.b7
  · exact Vm.b8
  · rfl
  · exact Vm.b105
  · exact Vm.b10
  · exact fun β => rfl
  · exact Vm.b105
theorem one_ok (r : Rul) (p : Prc) (e : Evt) (p1 p2 p3 : Nat) (hok : ∀ x ∈ p.P, x.ok) (hn : p.P.length ≤ 1000000) (hc : p.cells.length ≤ 1000000) (hpo : p.ports.length ≤ 1000000) (hE0 : procE r p = 0) (ht : takesB p e = true) (hb : hE r p e = 0) : LitOk Tryz.prog 59 [.agg [.int .u64 r.seed, .int .i64 r.ahead, .int .i64 r.fuel], .agg [.int .i64 p.id, .sl 1 2 [] 5 0 p.P.length (some p1), .sl 3 4 [] 1 0 p.cells.length (some p2), .int .i64 p.draws, .int .i64 p.seq, .sl 5 6 [] 1 0 p.ports.length (some p3)], evtS e]
    [.gone, .gone, .ro (.arr p.P.length 5 (prS p.P)), .gone, .ro (.arr p.cells.length 1 (i64S p.cells)), .gone, .ro (.arr p.ports.length 1 (i64S p.ports))]
    (.tup [dnS (hS r ⟨p, [], 0⟩ e) 7 8 9 10, .int .i64 0]) [.gone, .gone, .gone, .gone, .gone, .gone, .gone, prO p.P, cB (hR r p e).s, inO p.ports, evO_ (hS r ⟨p, [], 0⟩ e).sent] := by
  have hG := HG.of hE0 ht hok
  have h5 : (0 : Nat) ≤ 1000000 := by decide
  have h6 : (0 : Nat) ≤ 1000000000 := by decide

  refine litOkM (fn := Tryz.f59) 7 38 0 rfl rfl rfl rfl rfl (by simp only [StableL, Stable, hp, pcS, dnB, DnI.at_, dnS, dnR, i64S, prS, insS, sndsS, sndS, evtsS, evtS, prO, i64O, inO, evO_, cB, sB, HB.stable]; simp [HB.born, evtS]) rfl fun w0 M E hro => ?_
  repeat' (first | refine Ctl.h ?_ | ((with_reducible intro hif); first | (focus (cases hif; done)) | (simp only [JH] at hif; try (exfalso; omega)) | (try (exfalso; omega))) | ((first | ((with_reducible apply J22 cO0_ok tab_ok); (· rfl)) | ((with_reducible apply J23 fol cO0_ok tab_ok); (· rfl)) | with_reducible apply J24); (· exact Vm.b110); (try kernel_rfl); (try exact Vm.b109)) | fail)
  refine WF.nilIn 29 5 (evtsS []) 14 82 (.agg [.agg [.int .i64 p.id, .sl 11 11 [] 5 0 p.P.length none, .sl 12 12 [] 1 0 p.cells.length none, .int .i64 p.draws, .int .i64 p.seq, .sl 13 13 [] 1 0 p.ports.length none], .sl 0 0 [] 0 0 0 (some 0), .nat .i64 0]) (dnR p.id p.draws p.seq p.P.length p.cells.length p.ports.length 0 0 11 12 13 15) true (fun _ q => evtsS_stable q) rfl (fun β b0 hβ => by
      have e := nil_cl (k := 5) b0 (show β 15 = (none, 0) from hβ)
      simp only [dnR, SV.cl, SV.den, denL] at e ⊢
      rw [e]) (fun h hb => by
      have k11 := hb 11 (show (11 : Nat) ≤ 15 by decide)
      have k12 := hb 12 (show (12 : Nat) ≤ 15 by decide)
      have k13 := hb 13 (show (13 : Nat) ≤ 15 by decide)
      have k15 := hb 15 (show (15 : Nat) ≤ 15 by decide)
      simp [dnR, Stable, StableL, k11, k12, k13, k15]) rfl (fun n k f e => by cases e) (fun n k f e => by cases e) rfl ?_
  simp only [setH, List.cons_append, List.nil_append]

  repeat' (first | refine Ctl.h ?_ | ((with_reducible intro hif); first | (focus (cases hif; done)) | (simp only [JH] at hif; try (exfalso; omega)) | (try (exfalso; omega))) | ((first | ((with_reducible apply J22 cOG_ok tab_ok); (· rfl)) | ((with_reducible apply J23 fol cOG_ok tab_ok); (· rfl)) | with_reducible apply J24); (· (simp only [push_cast, ↓JP, Nat.reduceAdd, Nat.reduceEqDiff, Nat.reduceLT, Nat.reduceMul, Nat.reduceLeDiff, reduceCtorEq, reduceIte, ↓JK, cOG, evm_ev, ↓evtS_sz, ↓evtS_ag, ↓evtS_pl, nav_evt, rul_eta, ls_zero, JB, dnS, dnR, dnB, evO_, dn0, hb]; rfl)); (try kernel_rfl); (try exact Vm.b109)) | fail)
  apply At.endsPick [0, 1, 2, 3, 4, 5, 6, 11, 16, 13, 17] tab_ok (fn := Tryz.f59) (rs := [.cell 6 82, .tmp 7]) Anc.refl hro (Nat.le_of_ble_eq_true rfl) rfl
  · exact Vm.b18
  · exact Vm.b24
  · rfl
  · rfl
  · rfl
  · exact Vm.b37
  · rfl
  · exact Vm.b105
  · exact Vm.b10
  · exact fun β => rfl
  · exact Vm.b105
theorem one_err (r : Rul) (p : Prc) (e : Evt) (p1 p2 p3 : Nat) (hok : ∀ x ∈ p.P, x.ok) (hn : p.P.length ≤ 1000000) (hc : p.cells.length ≤ 1000000) (hpo : p.ports.length ≤ 1000000) (h : oneE r p e ≠ 0) : LitOk Tryz.prog 59 [.agg [.int .u64 r.seed, .int .i64 r.ahead, .int .i64 r.fuel], .agg [.int .i64 p.id, .sl 1 2 [] 5 0 p.P.length (some p1), .sl 3 4 [] 1 0 p.cells.length (some p2), .int .i64 p.draws, .int .i64 p.seq, .sl 5 6 [] 1 0 p.ports.length (some p3)], evtS e]
    [.gone, .gone, .ro (.arr p.P.length 5 (prS p.P)), .gone, .ro (.arr p.cells.length 1 (i64S p.cells)), .gone, .ro (.arr p.ports.length 1 (i64S p.ports))] (.tup [dn0, .int .i64 (oneE r p e)]) [.gone] := by
  unfold oneE at h ⊢
  by_cases h1 : procE r p = 0
  · rw [if_neg (fun h => h h1)] at h ⊢
    cases h2 : takesB p e
    · rw [if_pos rfl]; exact one_tak r p e p1 p2 p3 hok hn hc hpo h1 h2
    · rw [h2] at h
      rw [if_neg Bool.noConfusion] at h ⊢
      exact one_bad r p e p1 p2 p3 hok hn hc hpo h1 h2 h
  · rw [if_pos h1]; exact one_chk r p e p1 p2 p3 hok hn hc hpo h1
theorem oneE_zero {r : Rul} {p : Prc} {e : Evt} (h : oneE r p e = 0) : procE r p = 0 ∧ takesB p e = true ∧ hE r p e = 0 := by
  unfold oneE at h
  by_cases h1 : procE r p = 0
  · rw [if_neg (fun h => h h1)] at h
    cases h2 : takesB p e
    · rw [if_pos h2] at h; cases h
    · rw [if_neg (by rw [h2]; exact Bool.noConfusion)] at h
      exact ⟨h1, rfl, h⟩
  · rw [if_pos h1] at h; exact absurd h h1
def sOneB : Spec := fun args h m => match args with
  | [.agg [v1, v2, v3], .agg [v4, v5, v6, v7, v8, v9], v10] => match srcV h 5 (.tup []) v5, srcV h 1 (.tup []) v6, srcV h 1 (.tup []) v9 with
    | some (c5, n5, f5, r5), some (c6, n6, f6, r6), some (c9, n9, f9, r9) => bif isI .u64 v1 && isI .i64 v2 && isI .i64 v3 && isI .i64 v4 && isI .i64 v7 && isI .i64 v8 && isEvt v10 then some (c5 ∧ c6 ∧ c9 ∧ (∀ q, q < n5 → isIns (f5 q) = true) ∧ (∀ q, q < n6 → isI .i64 (f6 q) = true) ∧ (∀ q, q < n9 → isI .i64 (f9 q) = true) ∧ ((∀ x ∈ (ls insOf n5 f5), x.ok)) ∧ (n5 ≤ 1000000) ∧ (n6 ≤ 1000000) ∧ (n9 ≤ 1000000) ∧ (oneE ⟨(iOf v1), (iOf v2), (iOf v3)⟩ ⟨(iOf v4), (ls insOf n5 f5), (ls iOf n6 f6), (iOf v7), (iOf v8), (ls iOf n9 f9)⟩ (evtOf v10) ≠ 0), .tup [dn0, .int .i64 (oneE ⟨(iOf v1), (iOf v2), (iOf v3)⟩ ⟨(iOf v4), (ls insOf n5 f5), (ls iOf n6 f6), (iOf v7), (iOf v8), (ls iOf n9 f9)⟩ (evtOf v10))], r5 ++ r6 ++ r9, []) else none
    | _, _, _ => none
  | _ => none
theorem sOneB_ok : CallOk Tryz.prog 59 sOneB := by
  refine ⟨named_spec (by kernel_rfl), fun args h m c v rd wr hs hm hc w0 M β h' w R hrd hwr hst => ?_⟩
  unfold sOneB at hs
  split at hs
  · rename_i v1 v2 v3 v4 v5 v6 v7 v8 v9 v10
    split at hs
    · rename_i c5 n5 f5 r5 c6 n6 f6 r6 c9 n9 f9 r9 a5 a6 a9
      obtain ⟨hb, hs⟩ := bif_some hs
      simp only [Option.some.injEq, Prod.mk.injEq] at hs
      obtain ⟨rfl, rfl, rfl, rfl⟩ := hs
      simp only [Bool.and_eq_true] at hb
      obtain ⟨⟨⟨⟨⟨⟨b1, b2⟩, b3⟩, b4⟩, b7⟩, b8⟩, b10⟩ := hb
      obtain ⟨k5, k6, k9, g5, g6, g9, y1, y2, y3, y4, y5⟩ := hc
      obtain ⟨A5, p5, d5, e5, t5⟩ := reads_src R a5 k5 (fun i hi => hrd i (List.mem_append_left _ (List.mem_append_left _ hi))) (by omega)
      obtain ⟨A6, p6, d6, e6, t6⟩ := reads_src R a6 k6 (fun i hi => hrd i (List.mem_append_left _ (List.mem_append_right _ hi))) (by omega)
      obtain ⟨A9, p9, d9, e9, t9⟩ := reads_src R a9 k9 (fun i hi => hrd i (List.mem_append_right _ hi)) (by omega)
      refine callRo (views := [⟨5, (ls insOf n5 f5).length, prS (ls insOf n5 f5), A5, p5⟩, ⟨1, (ls iOf n6 f6).length, i64S (ls iOf n6 f6), A6, p6⟩, ⟨1, (ls iOf n9 f9).length, i64S (ls iOf n9 f9), A9, p9⟩]) (one_err ⟨(iOf v1), (iOf v2), (iOf v3)⟩ ⟨(iOf v4), (ls insOf n5 f5), (ls iOf n6 f6), (iOf v7), (iOf v8), (ls iOf n9 f9)⟩ (evtOf v10) p5 p6 p9 y1 (by rw [ls_length]; exact y2) (by rw [ls_length]; exact y3) (by rw [ls_length]; exact y4) y5) ?_ R hm hwr ?_ ?_ ?_
      · intro x hx
        simp only [List.mem_cons, List.not_mem_nil, or_false] at hx
        rcases hx with rfl | rfl | rfl
        · exact viewIns t5 e5 g5
        · exact viewI64 t6 e6 g6
        · exact viewI64 t9 e9 g9
      · intro β1 hv
        simp only [Vd, ls_length, and_true] at hv
        obtain ⟨z5, z6, z9⟩ := hv
        simp only [denL, aggDen, intDen, natDen, boolDen, ls_length, z5, z6, z9, d5, d6, d9, isI_den b1, isI_den b2, isI_den b3, isI_den b4, isI_den b7, isI_den b8, den_evtOf b10, den_evtS]
      · exact Vm.b105
      · exact Vm.b105
    · cases hs
  · cases hs
def sOneG : Spec := fun args h m => match args with
  | [.agg [v1, v2, v3], .agg [v4, v5, v6, v7, v8, v9], v10] => match srcV h 5 (.tup []) v5, srcV h 1 (.tup []) v6, srcV h 1 (.tup []) v9 with
    | some (c5, n5, f5, r5), some (c6, n6, f6, r6), some (c9, n9, f9, r9) => bif isI .u64 v1 && isI .i64 v2 && isI .i64 v3 && isI .i64 v4 && isI .i64 v7 && isI .i64 v8 && isEvt v10 then some (c5 ∧ c6 ∧ c9 ∧ (∀ q, q < n5 → isIns (f5 q) = true) ∧ (∀ q, q < n6 → isI .i64 (f6 q) = true) ∧ (∀ q, q < n9 → isI .i64 (f9 q) = true) ∧ ((∀ x ∈ (ls insOf n5 f5), x.ok)) ∧ (n5 ≤ 1000000) ∧ (n6 ≤ 1000000) ∧ (n9 ≤ 1000000) ∧ (oneE ⟨(iOf v1), (iOf v2), (iOf v3)⟩ ⟨(iOf v4), (ls insOf n5 f5), (ls iOf n6 f6), (iOf v7), (iOf v8), (ls iOf n9 f9)⟩ (evtOf v10) = 0), .tup [dnS (hS ⟨(iOf v1), (iOf v2), (iOf v3)⟩ ⟨⟨(iOf v4), (ls insOf n5 f5), (ls iOf n6 f6), (iOf v7), (iOf v8), (ls iOf n9 f9)⟩, [], 0⟩ (evtOf v10)) m (m + 1) (m + 2) (m + 3), .int .i64 0], r5 ++ r6 ++ r9, [(m, prO (ls insOf n5 f5)), (m + 1, cB (hR ⟨(iOf v1), (iOf v2), (iOf v3)⟩ ⟨(iOf v4), (ls insOf n5 f5), (ls iOf n6 f6), (iOf v7), (iOf v8), (ls iOf n9 f9)⟩ (evtOf v10)).s), (m + 2, inO (ls iOf n9 f9)), (m + 3, evO_ (hS ⟨(iOf v1), (iOf v2), (iOf v3)⟩ ⟨⟨(iOf v4), (ls insOf n5 f5), (ls iOf n6 f6), (iOf v7), (iOf v8), (ls iOf n9 f9)⟩, [], 0⟩ (evtOf v10)).sent)]) else none
    | _, _, _ => none
  | _ => none
theorem sOneG_ok : CallOk Tryz.prog 59 sOneG := by
  refine ⟨named_spec (by kernel_rfl), fun args h m c v rd wr hs hm hc w0 M β h' w R hrd hwr hst => ?_⟩
  unfold sOneG at hs
  split at hs
  · rename_i v1 v2 v3 v4 v5 v6 v7 v8 v9 v10
    split at hs
    · rename_i c5 n5 f5 r5 c6 n6 f6 r6 c9 n9 f9 r9 a5 a6 a9
      obtain ⟨hb, hs⟩ := bif_some hs
      simp only [Option.some.injEq, Prod.mk.injEq] at hs
      obtain ⟨rfl, rfl, rfl, rfl⟩ := hs
      simp only [Bool.and_eq_true] at hb
      obtain ⟨⟨⟨⟨⟨⟨b1, b2⟩, b3⟩, b4⟩, b7⟩, b8⟩, b10⟩ := hb
      obtain ⟨k5, k6, k9, g5, g6, g9, y1, y2, y3, y4, y5⟩ := hc
      obtain ⟨A5, p5, d5, e5, t5⟩ := reads_src R a5 k5 (fun i hi => hrd i (List.mem_append_left _ (List.mem_append_left _ hi))) (by omega)
      obtain ⟨A6, p6, d6, e6, t6⟩ := reads_src R a6 k6 (fun i hi => hrd i (List.mem_append_left _ (List.mem_append_right _ hi))) (by omega)
      obtain ⟨A9, p9, d9, e9, t9⟩ := reads_src R a9 k9 (fun i hi => hrd i (List.mem_append_right _ hi)) (by omega)
      refine callRo (views := [⟨5, (ls insOf n5 f5).length, prS (ls insOf n5 f5), A5, p5⟩, ⟨1, (ls iOf n6 f6).length, i64S (ls iOf n6 f6), A6, p6⟩, ⟨1, (ls iOf n9 f9).length, i64S (ls iOf n9 f9), A9, p9⟩]) (one_ok ⟨(iOf v1), (iOf v2), (iOf v3)⟩ ⟨(iOf v4), (ls insOf n5 f5), (ls iOf n6 f6), (iOf v7), (iOf v8), (ls iOf n9 f9)⟩ (evtOf v10) p5 p6 p9 y1 (by rw [ls_length]; exact y2) (by rw [ls_length]; exact y3) (by rw [ls_length]; exact y4) (oneE_zero y5).1 (oneE_zero y5).2.1 (oneE_zero y5).2.2) ?_ R hm hwr ?_ ?_ ?_
      · intro x hx
        simp only [List.mem_cons, List.not_mem_nil, or_false] at hx
        rcases hx with rfl | rfl | rfl
        · exact viewIns t5 e5 g5
        · exact viewI64 t6 e6 g6
        · exact viewI64 t9 e9 g9
      · intro β1 hv
        simp only [Vd, ls_length, and_true] at hv
        obtain ⟨z5, z6, z9⟩ := hv
        simp only [denL, aggDen, intDen, natDen, boolDen, ls_length, z5, z6, z9, d5, d6, d9, isI_den b1, isI_den b2, isI_den b3, isI_den b4, isI_den b7, isI_den b8, den_evtOf b10, den_evtS]
      · exact Vm.b105
      · exact Vm.b105
    · cases hs
  · cases hs
end Go.Proofs.YtjliakjbdcplcaaGreat.Vm
end

section
namespace Go.Proofs.YtjliakjbdcplcaaGreat.Vm
open Go.RowKit
set_option linter.unusedVariables false
set_option linter.unusedSimpArgs false
def kcE (a b : Evt) : Int × Int := kcmp a.time a.source a.seq b.time b.source b.seq
def badAt (p : Prc) (l : List Evt) (i : Nat) : Int := if takesB p (l.getD i ⟨0, 0, 0, 0, 0⟩) = false then 282 else if 0 < i ∧ 0 ≤ (kcE (l.getD (i - 1) ⟨0, 0, 0, 0, 0⟩) (l.getD i ⟨0, 0, 0, 0, 0⟩)).1 then 283 else 0
def foldD (r : Rul) (D : Dn) (l : List Evt) : Dn := l.foldl (hS r) D
theorem foldD_snoc (r : Rul) (D : Dn) (l : List Evt) (e : Evt) : foldD r D (l ++ [e]) = hS r (foldD r D l) e := by simp [foldD]
theorem foldD_nil (r : Rul) (D : Dn) : foldD r D [] = D := rfl
def AllK (r : Rul) (D : Dn) (l : List Evt) (k : Nat) : Prop := ∀ i, i < k → hE r (foldD r D (l.take i)).p (l.getD i ⟨0, 0, 0, 0, 0⟩) = 0
theorem take_snoc {α : Type} {l : List α} {k : Nat} (d : α) (hk : k < l.length) : l.take (k + 1) = l.take k ++ [l.getD k d] := by
  rw [List.getD_eq_getElem?_getD, List.getElem?_eq_getElem hk, List.take_add_one, List.getElem?_eq_getElem hk]; rfl
theorem HG.next {r : Rul} {D : Dn} {e : Evt} (h : HG r D.p e) (h0 : hE r D.p e = 0) : (hS r D e).p.rightB = true ∧ (hS r D e).p.P = D.p.P ∧ (hS r D e).p.id = D.p.id ∧ (hS r D e).p.ports = D.p.ports ∧ (hS r D e).p.cells.length = D.p.cells.length ∧ D.p.draws ≤ (hS r D e).p.draws ∧ (hS r D e).p.seq = D.p.seq + (hR r D.p e).s.sends.length ∧ (hS r D e).sent.length = D.sent.length + (hR r D.p e).s.sends.length ∧ (hR r D.p e).s.sends.length ≤ (hR r D.p e).tr.length ∧ (hS r D e).used = D.used + (hR r D.p e).tr.length := by
  obtain ⟨hb, hg, hq⟩ := hE_zero h0
  obtain ⟨hI, hG⟩ := h.si hb
  obtain ⟨h1, h2, h4, h5, h6, h7, h8, h9, h10⟩ := rightB_iff.1 h.hp
  have hl := hI.l
  have hd := hI.d
  have hn := hI.n
  have hc : cnt D.p.P 8 (hR r D.p e).tr ≤ (hR r D.p e).tr.length := List.length_filter_le _ _
  refine ⟨rightB_iff.2 ⟨h1, h2, ?_, ?_, ?_, ?_, ?_, h9, h10⟩, rfl, rfl, rfl, hl, ?_, rfl, ?_, by omega, rfl⟩
  · show (hR r D.p e).s.cells.length ≤ 1024; omega
  · exact hG.d0
  · exact hG.d1
  · show 0 ≤ D.p.seq + ((hR r D.p e).s.sends.length : Int); omega
  · show D.p.seq + ((hR r D.p e).s.sends.length : Int) ≤ 4294967296; omega
  · show D.p.draws ≤ (hR r D.p e).s.draws; omega
  · show (D.sent ++ _).length = _; rw [List.length_append, sentL_len]
structure FI (r : Rul) (p : Prc) (l : List Evt) (k : Nat) (D : Dn) : Prop where
  hp : D.p.rightB = true
  P : D.p.P = p.P
  id : D.p.id = p.id
  po : D.p.ports = p.ports
  cl : D.p.cells.length = p.cells.length
  dr : p.draws ≤ D.p.draws
  sq : D.p.seq = p.seq + (D.sent.length : Int)
  su : D.sent.length ≤ D.used
  us : (D.used : Int) ≤ r.fuel * k
theorem fi_zero {r : Rul} {p : Prc} {l : List Evt} (hp : p.rightB = true) : FI r p l 0 ⟨p, [], 0⟩ := ⟨hp, rfl, rfl, rfl, rfl, Int.le_refl _, by simp, Nat.le_refl _, by simp⟩
theorem FI.hg {r : Rul} {p : Prc} {l : List Evt} {k : Nat} {D : Dn} (h : FI r p l k D) (hr : r.rightB = true) (hok : ∀ x ∈ p.P, x.ok) {e : Evt} (ht : takesB p e = true) : HG r D.p e :=
  ⟨hr, h.hp, by rw [h.P]; exact hok, (takes_key ht).1, (takes_key ht).2⟩
theorem FI.step {r : Rul} {p : Prc} {l : List Evt} {k : Nat} {D : Dn} (h : FI r p l k D) (hr : r.rightB = true) (hok : ∀ x ∈ p.P, x.ok) {e : Evt} (ht : takesB p e = true) (h0 : hE r D.p e = 0) : FI r p l (k + 1) (hS r D e) := by
  have G := h.hg hr hok ht
  obtain ⟨n1, n2, n3, n4, n5, n6, n7, n8, n9, n10⟩ := G.next h0
  have hl := G.len
  refine ⟨n1, n2.trans h.P, n3.trans h.id, n4.trans h.po, n5.trans h.cl, Int.le_trans h.dr n6, by rw [n7, n8, h.sq]; omega, by rw [n8, n10]; have := h.su; omega, ?_⟩
  have := h.us
  rw [n10]
  have e1 : r.fuel * ((k + 1 : Nat) : Int) = r.fuel * (k : Int) + r.fuel := by
    rw [show ((k + 1 : Nat) : Int) = (k : Int) + 1 by omega, Int.mul_add, Int.mul_one]
  rw [e1]
  omega
theorem badAt_takes {p : Prc} {l : List Evt} {i : Nat} (h : badAt p l i = 0) : takesB p (l.getD i ⟨0, 0, 0, 0, 0⟩) = true := by
  unfold badAt at h
  cases ht : takesB p (l.getD i ⟨0, 0, 0, 0, 0⟩)
  · rw [if_pos ht] at h; cases h
  · rfl
theorem fi_all {r : Rul} {p : Prc} {l : List Evt} (hE0 : procE r p = 0) (hok : ∀ x ∈ p.P, x.ok) (hB : ∀ q, q < l.length → badAt p l q = 0) : ∀ k, k ≤ l.length → AllK r ⟨p, [], 0⟩ l k → FI r p l k (foldD r ⟨p, [], 0⟩ (l.take k))
  | 0, _, _ => by rw [List.take_zero, foldD_nil]; exact fi_zero (procE_zero hE0).2
  | k + 1, hk, hA => by
    have ih := fi_all hE0 hok hB k (by omega) (fun i hi => hA i (by omega))
    rw [take_snoc ⟨0, 0, 0, 0, 0⟩ (by omega), foldD_snoc]
    exact ih.step (procE_zero hE0).1 hok (badAt_takes (hB k (by omega))) (hA k (by omega))
end Go.Proofs.YtjliakjbdcplcaaGreat.Vm
end

section
namespace Go.Proofs.YtjliakjbdcplcaaGreat.Vm
open Go.RowKit
set_option linter.unusedVariables false
set_option linter.unusedSimpArgs false
structure ESm where
  more : Int
  source : Int
  value : Int
deriving DecidableEq
def ESm.cells (e : ESm) : List Value := [.int .u8 e.more, .int .u8 e.source, .int .i64 e.value]
def esV (l : List ESm) : List Value := l.flatMap ESm.cells
def esA (e : ESm) : SV := .agg [.int .u8 e.more, .int .u8 e.source, .int .i64 e.value]
def esS (l : List ESm) : Nat → SV := fun q => esA (l.getD q ⟨0, 0, 0⟩)
theorem esS_stable {h : HM} {l : List ESm} (q : Nat) : Stable h (esS l q) := by simp [esS, esA, Stable, StableL]
theorem elems_esS {β : Env} (l : List ESm) : elems β 3 l.length (esS l) = esV l := by
  have hc : ∀ x : ESm, (esA x).cl β = x.cells := fun x => by
    rw [show esA x = .agg [.int .u8 x.more, .int .u8 x.source, .int .i64 x.value] from rfl, cl_agg]; rfl
  unfold elems esV
  have e : (List.range l.length).flatMap (fun q => fit 3 ((esS l q).cl β)) = ((List.range l.length).map fun q => l.getD q ⟨0, 0, 0⟩).flatMap ESm.cells := by
    rw [List.flatMap_map]
    exact congrArg (fun f => (List.range l.length).flatMap f) (funext fun q => by rw [show esS l q = esA (l.getD q ⟨0, 0, 0⟩) from rfl, hc]; exact fit_eq rfl)
  rw [e]
  congr 1
  apply List.ext_getElem
  · simp
  · intro i h1 h2
    simp [List.getElem?_eq_getElem h2]
structure ESm.ok (e : ESm) : Prop where
  m0 : 0 ≤ e.more
  m1 : e.more ≤ 255
  s0 : 0 ≤ e.source
  s1 : e.source ≤ 255
def lastE (l : List Evt) : Evt := l.getD (l.length - 1) ⟨0, 0, 0, 0, 0⟩
def mSrc (l : List Evt) (t s : Int) : Int := if 0 < l.length ∧ (lastE l).time = t then max s (lastE l).source else s
def mStep (id : Int) (S : Int × List Evt) (e : ESm) : Int × List Evt := (S.1 + e.more, S.2 ++ [⟨S.1 + e.more, mSrc S.2 (S.1 + e.more) (e.source.tmod 17), S.2.length, id, e.value⟩])
def mEv (id : Int) (l : List ESm) : Int × List Evt := l.foldl (mStep id) (1, [])
theorem mEv_snoc (id : Int) (l : List ESm) (e : ESm) : mEv id (l ++ [e]) = mStep id (mEv id l) e := by simp [mEv]
def mPorts (ps : List Int) : List Int := ps.map fun x => x.tmod 17
structure MI (id : Int) (k : Nat) (S : Int × List Evt) : Prop where
  n : S.2.length = k
  t0 : 1 ≤ S.1
  t1 : S.1 ≤ 1 + 255 * (k : Int)
  l : 0 < k → (lastE S.2).time = S.1 ∧ 0 ≤ (lastE S.2).source ∧ (lastE S.2).source ≤ 16
  b : ∀ q, q < k → (keyB (S.2.getD q ⟨0, 0, 0, 0, 0⟩).time (S.2.getD q ⟨0, 0, 0, 0, 0⟩).source (S.2.getD q ⟨0, 0, 0, 0, 0⟩).seq = true ∧ (S.2.getD q ⟨0, 0, 0, 0, 0⟩).to_ = id ∧ 1 ≤ (S.2.getD q ⟨0, 0, 0, 0, 0⟩).time ∧ (S.2.getD q ⟨0, 0, 0, 0, 0⟩).seq = q) ∧ (0 < q → (kcE (S.2.getD (q - 1) ⟨0, 0, 0, 0, 0⟩) (S.2.getD q ⟨0, 0, 0, 0, 0⟩)).1 = -1)
theorem kcmp_lt {t s q t' s' q' : Int} (h : t < t' ∨ (t = t' ∧ (s < s' ∨ (s = s' ∧ q < q')))) : (kcmp t s q t' s' q').1 = -1 := by
  unfold kcmp
  rw [if_neg (by omega)]
  by_cases h1 : t = t'
  · rw [if_neg (fun h => h h1)]
    by_cases h2 : s = s'
    · rw [if_neg (fun h => h h2)]; unfold icmp; rw [if_pos (by omega)]
    · rw [if_pos h2]; unfold icmp; rw [if_pos (by omega)]
  · rw [if_pos h1]; unfold icmp; rw [if_pos (by omega)]
theorem getD_app_lt {α : Type} {l m : List α} {q : Nat} {d : α} (h : q < l.length) : (l ++ m).getD q d = l.getD q d := by
  rw [List.getD_eq_getElem?_getD, List.getD_eq_getElem?_getD, List.getElem?_append_left h]
theorem getD_snoc {α : Type} {l : List α} {x d : α} : (l ++ [x]).getD l.length d = x := by
  rw [List.getD_eq_getElem?_getD, List.getElem?_append_right (Nat.le_refl _), Nat.sub_self]; rfl
theorem mi_step {id : Int} {k : Nat} {S : Int × List Evt} {e : ESm} (h : MI id k S) (hk : k < 200) (he : e.ok) : MI id (k + 1) (mStep id S e) := by
  have n := h.n
  have t0 := h.t0
  have t1 := h.t1
  have m0 := he.m0
  have m1 := he.m1
  have s0 := Int.tmod_nonneg 17 he.s0
  have s1 := Int.tmod_lt_of_pos e.source (show (0 : Int) < 17 by decide)
  have hsrc : 0 ≤ mSrc S.2 (S.1 + e.more) (e.source.tmod 17) ∧ mSrc S.2 (S.1 + e.more) (e.source.tmod 17) ≤ 16 := by
    unfold mSrc
    split
    · rename_i hc
      have := h.l (by omega)
      omega
    · omega
  have hlen : (S.2 ++ [(⟨S.1 + e.more, mSrc S.2 (S.1 + e.more) (e.source.tmod 17), S.2.length, id, e.value⟩ : Evt)]).length = k + 1 := by simp [n]
  have hlast : lastE (S.2 ++ [(⟨S.1 + e.more, mSrc S.2 (S.1 + e.more) (e.source.tmod 17), S.2.length, id, e.value⟩ : Evt)]) = ⟨S.1 + e.more, mSrc S.2 (S.1 + e.more) (e.source.tmod 17), S.2.length, id, e.value⟩ := by
    unfold lastE
    rw [hlen, show k + 1 - 1 = S.2.length by omega, getD_snoc]
  refine ⟨hlen, by show 1 ≤ S.1 + e.more; omega, by show S.1 + e.more ≤ _; omega, fun _ => ?_, fun q hq => ?_⟩
  · show (lastE (S.2 ++ [_])).time = S.1 + e.more ∧ _
    rw [show lastE (mStep id S e).2 = lastE (S.2 ++ [(⟨S.1 + e.more, mSrc S.2 (S.1 + e.more) (e.source.tmod 17), S.2.length, id, e.value⟩ : Evt)]) from rfl, hlast]
    exact ⟨rfl, hsrc.1, hsrc.2⟩
  · by_cases hqk : q < k
    · have e1 : (mStep id S e).2.getD q ⟨0, 0, 0, 0, 0⟩ = S.2.getD q ⟨0, 0, 0, 0, 0⟩ := getD_app_lt (by omega)
      have e2 : (mStep id S e).2.getD (q - 1) ⟨0, 0, 0, 0, 0⟩ = S.2.getD (q - 1) ⟨0, 0, 0, 0, 0⟩ := getD_app_lt (by omega)
      rw [e1, e2]
      exact h.b q hqk
    · obtain rfl : q = S.2.length := by omega
      have e1 : (mStep id S e).2.getD S.2.length ⟨0, 0, 0, 0, 0⟩ = ⟨S.1 + e.more, mSrc S.2 (S.1 + e.more) (e.source.tmod 17), S.2.length, id, e.value⟩ := getD_snoc
      rw [e1]
      refine ⟨⟨decide_eq_true (by dsimp only; omega), rfl, by dsimp only; omega, rfl⟩, fun h0 => ?_⟩
      have e2 : (mStep id S e).2.getD (S.2.length - 1) ⟨0, 0, 0, 0, 0⟩ = lastE S.2 := getD_app_lt (by omega)
      rw [e2]
      obtain ⟨l1, l2, l3⟩ := h.l (by omega)
      have hsq := (h.b (S.2.length - 1) (by omega)).1.2.2.2
      have hsq : (lastE S.2).seq = ((S.2.length - 1 : Nat) : Int) := hsq
      refine kcmp_lt ?_
      dsimp only
      by_cases hm : e.more = 0
      · right
        refine ⟨by omega, ?_⟩
        have hs : (lastE S.2).source ≤ mSrc S.2 (S.1 + e.more) (e.source.tmod 17) := by
          unfold mSrc
          rw [if_pos ⟨by omega, by omega⟩]
          omega
        omega
      · left; omega
theorem mi_all {id : Int} {l : List ESm} (hl : l.length ≤ 200) (hok : ∀ e ∈ l, e.ok) : ∀ k, k ≤ l.length → MI id k (mEv id (l.take k))
  | 0, _ => by rw [List.take_zero]; exact ⟨rfl, by show (1 : Int) ≤ 1; omega, by show (1 : Int) ≤ _; omega, fun h => absurd h (Nat.lt_irrefl 0), fun q hq => absurd hq (Nat.not_lt_zero q)⟩
  | k + 1, hk => by
    rw [take_snoc ⟨0, 0, 0⟩ (by omega), mEv_snoc]
    refine mi_step (mi_all hl hok k (by omega)) (by omega) (hok _ ?_)
    rw [List.getD_eq_getElem?_getD, List.getElem?_eq_getElem (by omega)]
    exact List.getElem_mem _
theorem mEv_good {p : Prc} {l : List ESm} (hl : l.length ≤ 200) (hok : ∀ e ∈ l, e.ok) : (mEv p.id l).2.length = l.length ∧ ∀ q, q < (mEv p.id l).2.length → badAt p (mEv p.id l).2 q = 0 := by
  have h := mi_all (id := p.id) hl hok l.length (Nat.le_refl _)
  rw [List.take_length] at h
  refine ⟨h.n, fun q hq => ?_⟩
  obtain ⟨⟨b1, b2, b3, b4⟩, b5⟩ := h.b q (by rw [h.n] at hq; exact hq)
  unfold badAt
  have ht : takesB p ((mEv p.id l).2.getD q ⟨0, 0, 0, 0, 0⟩) = true := by
    unfold takesB
    rw [b1, b2]
    simp
  rw [if_neg (by rw [ht]; exact Bool.noConfusion), if_neg]
  rintro ⟨h0, h1⟩
  rw [b5 h0] at h1
  omega
end Go.Proofs.YtjliakjbdcplcaaGreat.Vm
end

section
namespace Go.Proofs.YtjliakjbdcplcaaGreat.Vm
open Go.RowKit
set_option linter.unusedVariables false
set_option linter.unusedSimpArgs false
set_option maxRecDepth 100000
def NilF (L : List HB) (φ : Fr) : Fr → Prop
  | [] => True
  | p :: l => (∃ u, look φ p.1 = some u ∧ (∀ β : Env, β 0 = (none, 0) → β L.length = (none, 0) → u.den β = p.2.den β)) ∧ NilF L φ l
theorem nilF_spec {L : List HB} {φ : Fr} : ∀ {φ2 : Fr}, NilF L φ φ2 → ∀ p ∈ φ2, ∃ u, look φ p.1 = some u ∧ (∀ β : Env, β 0 = (none, 0) → β L.length = (none, 0) → u.den β = p.2.den β)
  | [], _, p, hp => by cases hp
  | q :: l, h, p, hp => by
    rcases List.mem_cons.1 hp with rfl | hp
    · exact h.1
    · exact nilF_spec h.2 p hp
theorem At.nilFr {w0 : World} {M : Nat → Prop} {E : Env} {n0 N : Nat} {D : List Deferred} {φ φ2 : Fr} {L L2 : List HB} {K : Act → World → Prop} (ty k : Nat) (f : Nat → SV) (hf : ∀ (h : HM) (q : Nat), Stable h (f q))
    (hL2 : L2 = L ++ [.own ty (.arr 0 k f) false]) (hφ : NilF L φ φ2) (hst : StableF (hp L2) φ2) (h : At w0 M E n0 N D φ2 L2 K) : At w0 M E n0 N D φ L K := fun a w hS => by
  subst hL2
  obtain ⟨⟨β, hE, R, F⟩, hbn, hsz, hd⟩ := hS
  have hm : hp L L.length = .dead := hp_dead (Nat.le_refl _)
  have R1 := nothing R (e := ty) (k := k) (g := f) hm (fun q => hf _ q)
  have hag : ∀ i, (hp L i).born = true → β i = setE β L.length (none, 0) i := agree_setE hm
  have hborn : ∀ i, (hp L i).born = true → (upd (hp L) L.length (.own ty (.arr 0 k f) false) i).born = true := fun i hi => by
    unfold Vm.upd; split
    · rfl
    · exact hi
  refine h a w ⟨⟨setE β L.length (none, 0), fun i hi => (hag i (hbn i hi)).symm.trans (hE i hi), by rw [hp_append1]; exact R1, fun u v hu => ?_⟩, fun i hi => by rw [hp_append1]; exact hborn i (hbn i hi), hsz, hd⟩
  have hmem := look_mem hu
  obtain ⟨x, hx, hden⟩ := nilF_spec hφ _ hmem
  obtain ⟨k1, k2⟩ := F u x hx
  refine ⟨stableF_spec hst _ hmem, ?_⟩
  rw [k2, k1.den hag]
  exact hden _ R1.nil (setE_same _ _ _)
theorem WF.nilFr {P : Program} {w0 : World} {M : Nat → Prop} {E : Env} {n0 N n : Nat} {D : List Deferred} {φ φ2 : Fr} {L L2 : List HB} {c : Code} {ro : Option Nat} {Q : Exit → Act → World → Prop} (ty k : Nat) (f : Nat → SV) (hf : ∀ (h : HM) (q : Nat), Stable h (f q))
    (hL2 : L2 = L ++ [.own ty (.arr 0 k f) false]) (hφ : NilF L φ φ2) (hst : StableF (hp L2) φ2) (h : WF ro n P c w0 M E n0 N D φ2 L2 Q) : WF ro n P c w0 M E n0 N D φ L Q := At.nilFr ty k f hf hL2 hφ hst h
end Go.Proofs.YtjliakjbdcplcaaGreat.Vm
end

section
namespace Go.Proofs.YtjliakjbdcplcaaGreat.Vm
open Go.RowKit
set_option linter.unusedVariables false
set_option linter.unusedSimpArgs false
set_option maxRecDepth 100000
def sMd14 : Spec := fun args h m => match args with
  | [.sl z i pa k s n' (some cp)] => match srcV h 5 (.tup []) (.sl z i pa k s n' (some cp)) with
    | some (c, n, f, rd) =>
        some (c ∧ n = n' ∧ (∀ q, q < n → isIns (f q) = true) ∧ (∀ x ∈ ls insOf n f, x.ok) ∧ max n cp ≤ 9223372036854775807, .sl m m [] 5 0 (made14 (ls insOf n f)).length none, rd, [(m, .own 38 (.arr (made14 (ls insOf n f)).length 5 (prS (made14 (ls insOf n f)))) false)])
    | _ => none
  | _ => none
theorem sMd14_ok : CallOk Tryz.prog 73 sMd14 := by
  refine ⟨named_spec (by kernel_rfl), fun args h m c v rd wr hs hm hc w0 M β h' w R hrd hwr hst => ?_⟩
  unfold sMd14 at hs
  split at hs
  · rename_i z i pa k' s n' cp
    split at hs
    · rename_i c' n f rd' ha
      simp only [Option.some.injEq, Prod.mk.injEq] at hs
      obtain ⟨rfl, rfl, rfl, rfl⟩ := hs
      obtain ⟨hc1, hn, hi, hok, hcp⟩ := hc
      obtain ⟨A, cap, hden, hnc, hr⟩ := reads_src R ha hc1 hrd (by omega)
      rw [elems_ins hi] at hr
      have hcap : cap ≤ 9223372036854775807 := by
        simp only [SV.den, Option.getD_some] at hden
        injection hden with _ _ h3
        omega
      simp only [denL, hden]
      refine (made14_c (ls insOf n f) hok A n cap w hr hnc hcap).mono fun e w' he => ?_
      obtain ⟨p, rfl, ho, hb⟩ := he
      have hmd : h' m = .dead := (hwr _ (.head _)).trans (hm m (Nat.le_refl _))
      obtain ⟨e', R', hv⟩ := (R.below hb).made (f := prS (made14 (ls insOf n f))) hmd ho R.size (elems_prS _) prS_stable (fun g i a' hg hmi hai e => by
        have := R.lt i a' hmi hai
        obtain ⟨_, ⟨rfl, _⟩ | ⟨g', cap', cur, rfl, hg', _⟩⟩ := ho
        · cases hg
        · simp [Value.ownBlock] at hg
          omega)
      exact ⟨_, agree_setE hmd, R', stable_new, by rw [hv]⟩
    · cases hs
  · cases hs
end Go.Proofs.YtjliakjbdcplcaaGreat.Vm
end

section
namespace Go.Proofs.YtjliakjbdcplcaaGreat.Vm
open Go.RowKit
attribute [local push_cast] runR opG gtmp gval gus opX tmpsOf tm tmO tmP restr look look2 tab tys zs ets eqB eqBL allB numOf ieq Int.cast_ofNat_Int Int.ofNat_zero beq_true beq_false frameOf ev evL ofV opV loadV noW pushF wrsL setH allBorn allGone HB.born HB.isGone HB.val SV.plain dstOk hp nav fitsT SV.size sizeL SV.isAgg TK.size TK.agg bin binE binN binI arN arI cmpN cmpI keq kn narrow callV storeV setp fillV buildV buildSliceV makeV sliceV appendV appendFV slice3V copyV List.isEmpty_nil srcV evO asN ite_t ite_f ite_bool ite_int ite_nat maxV v_beq v_ble v_blt cond_true cond_false List.getElem?_cons_zero List.getElem?_cons_succ List.getD_cons_zero List.getD_cons_succ List.getD_nil List.length_cons List.length_nil List.take_succ_cons List.take_zero List.set_cons_zero List.set_cons_succ List.cons_append List.nil_append List.append_assoc List.replicate_succ List.replicate_zero Nat.zero_add Nat.add_zero decide_true decide_false Bool.true_and Bool.and_true Bool.false_and Bool.and_false Bool.true_or Bool.or_true Bool.false_or Bool.or_false beq_self_eq_true Bool.or_self Nat.lt_irrefl Nat.not_lt_zero Nat.le_refl Option.getD_some Option.getD_none BEq.rfl Bool.not_true Bool.not_false Bool.cond_true_left Bool.cond_false_right prS sndsS i64S nav_ins nav_ins0 nav_ins1 nav_ins2 nav_ins3 nav_ins4 nav_snd nav_snd0 nav_snd1 nav_snd2 isIns_insS insOf_insS isSnd_sndS sndOf_sndS isI_int isI_nat iOf
set_option linter.unusedVariables false
set_option linter.unusedSimpArgs false
set_option maxRecDepth 100000
set_option maxHeartbeats 4000000
def cM18 : FuncId → Option Spec := look2 [(35, sCl64)]
theorem cM18_ok : ∀ f S, cM18 f = some S → CallOk Tryz.prog f S := allOk_spec ⟨sCl64_ok, trivial⟩
def nilS (D : List Snd) (b : Nat) : SV := SV.ite D.isEmpty (.sl 0 0 [] 0 0 0 (some 0)) (.sl b b [] 3 0 D.length none)
theorem nilS_t {D : List Snd} {b : Nat} (h : D.isEmpty = true) : nilS D b = .sl 0 0 [] 0 0 0 (some 0) := by unfold nilS; rw [h]; rfl
theorem nilS_f {D : List Snd} {b : Nat} (h : D.isEmpty = false) : nilS D b = .sl b b [] 3 0 D.length none := by unfold nilS; rw [h]; rfl
def mSnd (n : Nat) : List Snd := (List.range n).map fun i : Nat => ⟨(i : Int), (i : Int), 1⟩
theorem mSnd_len (n : Nat) : (mSnd n).length = n := by simp [mSnd]
theorem mSnd_succ (n : Nat) : mSnd (n + 1) = mSnd n ++ [⟨n, n, 1⟩] := by simp [mSnd, List.range_succ]
theorem ls_take (cs : List Int) (k : Nat) (hk : k ≤ cs.length) : ls iOf k (i64S cs) = cs.take k := by
  apply List.ext_getElem
  · rw [ls_length, List.length_take, Nat.min_eq_left hk]
  · intro i h1 h2
    rw [ls_length] at h1
    have := ls_getD (g := iOf) (f := i64S cs) (d := 0) h1
    rw [List.getD_eq_getElem?_getD, List.getElem?_eq_getElem (by rw [ls_length]; exact h1)] at this
    simp only [Option.getD_some] at this
    rw [this]
    show cs.getD i 0 = _
    rw [List.getD_eq_getElem?_getD, List.getElem?_eq_getElem (by omega), List.getElem_take]
    rfl
theorem made18_lit (a d s : Int) (rg : Nat → Int) (cs : List Int) (P : List Ins) (hP : P.length ≤ 1000000) (p p2 : Nat) (hcp : cs.length ≤ p) (ha : 0 ≤ a ∧ a ≤ 255) (hd : 0 ≤ d ∧ d ≤ 4294967295) (hs : 0 ≤ s ∧ s ≤ 255) : LitOk Tryz.prog 72 [.agg [.int .u8 a, .arr 8 1 (fun q => .int .i64 (rg q)), .sl 1 2 [] 1 0 cs.length (some p), .int .u32 d, .int .u8 s], .sl 3 4 [] 5 0 P.length (some p2)] [.gone, .gone, .ro (.arr cs.length 1 (i64S cs)), .gone, .ro (.arr P.length 5 (prS P))]
    (.agg [.int .i64 (a.tmod ((max P.length 1 : Nat) : Int)), .bool false, .arr 8 1 (fun q => .int .i64 (rg q)), .sl 5 5 [] 1 0 (cs.take 12).length none, .int .i64 d, nilS (mSnd (s.tmod 21).toNat) 6]) [.gone, .gone, .gone, .gone, .gone, .own 2 (.arr (cs.take 12).length 1 (i64S (cs.take 12))) false, .own 125 (.arr (mSnd (s.tmod 21).toNat).length 3 (sndsS (mSnd (s.tmod 21).toNat))) false] := by
  have hk0 := Int.tmod_nonneg 21 hs.1
  have hk1 := Int.tmod_lt_of_pos s (show (0 : Int) < 21 by decide)
  have hm1 : (cs.take 12).length = min cs.length 12 := by rw [List.length_take, Nat.min_comm]
  have hm2 := ls_take cs (min cs.length 12) (Nat.min_le_left _ _)
  have hm3 : cs.take (min cs.length 12) = cs.take 12 := by
    rcases Nat.le_total cs.length 12 with h | h
    · exact Vm.b106
    · rw [Nat.min_eq_right h]
  rw [hm3] at hm2
  have hm2' : ls iOf (min cs.length 12) (fun q => .int .i64 (cs.getD q 0)) = cs.take 12 := hm2
  refine litOkM (fn := Tryz.f72) 5 45 0 rfl rfl rfl rfl rfl (by simp only [StableL, Stable, hp, i64S, prS, insS, sndsS, sndS, stS, evS, macS, HB.stable]; simp [HB.born]) rfl fun w0 M E hro => ?_
  repeat' (first | refine Ctl.h ?_ | ((with_reducible intro hif); first | (focus (cases hif; done)) | (simp only [JH] at hif; try (exfalso; omega)) | (try (exfalso; omega))) | ((first | ((with_reducible apply J22 cM18_ok tab_ok); (· rfl)) | ((with_reducible apply J23 fol cM18_ok tab_ok); (· rfl)) | with_reducible apply J24); (· (simp only [push_cast, ↓JP, Nat.reduceAdd, Nat.reduceEqDiff, Nat.reduceLT, Nat.reduceMul, Nat.reduceLeDiff, reduceCtorEq, reduceIte, ↓JK, JM, JE, cM18, sCl64, inR, inN, Nat.sub_zero, hm2, hm2']; rfl)); (try kernel_rfl); (try exact Vm.b22)) | fail)
  refine WF.empty 125 3 (sndsS []) (fun _ q => sndsS_stable q) ?_
  refine WF.loopAt (fun (j : Nat) => j ≤ (s.tmod 21).toNat) (fun (j : Nat) => [(2, .ptr 5 []), (4, .ptr 6 []), (5, .ptr 9 []), (31, .int .i64 (s.tmod 21)), (32, .nat .i64 j)]) (fun (j : Nat) => [.gone, .gone, .ro (.arr cs.length 1 (i64S cs)), .gone, .ro (.arr P.length 5 (prS P)), .gone, .own 60 (.agg [.nat .i64 0, .bool false, .arr 8 1 (fun x => .nat .i64 0), .sl 0 0 [] 0 0 0 (some 0), .nat .i64 0, .sl 0 0 [] 0 0 0 (some 0)]) true, .gone, .own 2 (.arr (min cs.length 12) 1 (i64S (cs.take 12))) false, .own 60 (.agg [.int .i64 (a.tmod ((max P.length 1 : Nat) : Int)), .bool false, .arr 8 1 (fun q => .int .i64 (rg q)), .sl 8 8 [] 1 0 (min cs.length 12) none, .int .i64 d, nilS (mSnd j) 10]) true, .own 125 (.arr (mSnd j).length 3 (sndsS (mSnd j))) false]) (fun (j : Nat) => (s.tmod 21).toNat - j) 0 (Nat.zero_le _) ?_ ?_ rfl ?_ ?_ rfl ?_
  · exact Vm.b11
  · exact Vm.b8
  · exact Vm.b107
  · exact Vm.b107
  intro j hj
  by_cases hlt : j < (s.tmod 21).toNat
  · have hlt2 : (j : Int) < s.tmod 21 := by omega
    have hne : (mSnd (j + 1)).isEmpty = false := by rw [mSnd_succ]; cases mSnd j <;> rfl
    have hY : ∀ σ, Less (.own 125 (.arr ((mSnd j).length + 1) 3 fun q => SV.ite (decide (q < (mSnd j).length)) (sndS ((mSnd j).getD q ⟨0, 0, 0⟩)) ([SV.agg [.nat .i64 j, .nat .i64 j, .nat .i64 1]].getD (q - (mSnd j).length) (.agg [.nat .i64 0, .nat .i64 0, .nat .i64 0]))) false) ((HB.own 125 (.arr (mSnd (j + 1)).length 3 (sndsS (mSnd (j + 1)))) false).ren σ) := fun σ => by
      rw [mSnd_succ]
      refine less_snd (mSnd j) ⟨j, j, 1⟩ rfl fun q hq β => ?_
      rw [ite_eq]
      by_cases h : q < (mSnd j).length
      · simp only [h, decide_true, cond_true, List.getD_eq_getElem?_getD, List.getElem?_append_left h]
        rw [isSnd_cl (isSnd_sndS _), sndOf_sndS]
      · obtain rfl : q = (mSnd j).length := by omega
        simp only [Nat.lt_irrefl, decide_false, cond_false, Nat.sub_self, List.getD_eq_getElem?_getD, List.getElem?_append_right (Nat.le_refl _), List.getElem?_cons_zero, Option.getD_some]
        rfl
    by_cases h0 : j = 0
    · subst h0
      rw [show nilS (mSnd 0) 10 = .sl 0 0 [] 0 0 0 (some 0) from rfl]
      have hY0 : ∀ σ, Less (.own 125 (.arr (0 + 1) 3 fun q => [SV.agg [.nat .i64 (0 : Nat), .nat .i64 (0 : Nat), .nat .i64 1]].getD q (.agg [.nat .i64 0, .nat .i64 0, .nat .i64 0])) false) ((HB.own 125 (.arr (mSnd (0 + 1)).length 3 (sndsS (mSnd (0 + 1)))) false).ren σ) := fun σ => by
        rw [mSnd_succ]
        refine less_snd (mSnd 0) ⟨0, 0, 1⟩ rfl fun q hq β => ?_
        obtain rfl : q = 0 := by simp [mSnd] at hq; omega
        rfl
      repeat' (first | refine Ctl.h ?_ | ((with_reducible intro hif); first | (focus (cases hif; done)) | (simp only [JH] at hif; try (exfalso; omega)) | (try (exfalso; omega))) | ((first | ((with_reducible apply J22 cM18_ok tab_ok); (· rfl)) | ((with_reducible apply J23 fol cM18_ok tab_ok); (· rfl)) | with_reducible apply J24); (· exact Vm.b111); (try kernel_rfl); (try exact Vm.b22)) | fail)
      refine At.nextPick [0, 1, 2, 3, 4, 5, 6, 7, 8, 9, 12] 1 ?_ rfl rfl rfl ?_ rfl ?_ ?_ ?_ rfl
      · exact ⟨hlt, by omega⟩
      · exact Vm.b108
      · exact Vm.b107
      · exact Vm.b64
      · exact Vm.b107
    · have hnj : (mSnd j).isEmpty = false := by
        obtain ⟨k, rfl⟩ : ∃ k, j = k + 1 := ⟨j - 1, by omega⟩
        rw [mSnd_succ]; cases mSnd k <;> rfl
      rw [nilS_f hnj]
      have hln : (mSnd j).length ≤ 21 := by rw [mSnd_len]; omega
      repeat' (first | refine Ctl.h ?_ | ((with_reducible intro hif); first | (focus (cases hif; done)) | (simp only [JH] at hif; try (exfalso; omega)) | (try (exfalso; omega))) | ((first | ((with_reducible apply J22 cM18_ok tab_ok); (· rfl)) | ((with_reducible apply J23 fol cM18_ok tab_ok); (· rfl)) | with_reducible apply J24); (· exact Vm.b111); (try kernel_rfl); (try exact Vm.b22)) | fail)
      refine At.nextPick [0, 1, 2, 3, 4, 5, 6, 7, 8, 9, 12] (j + 1) ?_ rfl rfl rfl ?_ rfl ?_ ?_ ?_ rfl
      · exact ⟨hlt, by omega⟩
      · exact Vm.b108
      · exact Vm.b107
      · exact Vm.b64
      · exact Vm.b107
  · obtain rfl : j = (s.tmod 21).toNat := by omega
    have hlt2 : ¬ ((s.tmod 21).toNat : Int) < s.tmod 21 := by omega
    cases hnj : (mSnd (s.tmod 21).toNat).isEmpty
    · rw [nilS_f hnj, nilS_f hnj]
      repeat' (first | refine Ctl.h ?_ | ((with_reducible intro hif); first | (focus (cases hif; done)) | (simp only [JH] at hif; try (exfalso; omega)) | (try (exfalso; omega))) | ((first | ((with_reducible apply J22 cM18_ok tab_ok); (· rfl)) | ((with_reducible apply J23 fol cM18_ok tab_ok); (· rfl)) | with_reducible apply J24); (· exact Vm.b111); (try kernel_rfl); (try exact Vm.b22)) | fail)
      apply At.endsPick [0, 1, 2, 3, 4, 8, 10] tab_ok (fn := Tryz.f72) (rs := [.cell 4 60]) Anc.refl hro (Nat.le_of_ble_eq_true rfl) rfl
      · exact Vm.b18
      · exact Vm.b24
      · rfl
      · rfl
      · rfl
      · exact Vm.b108
      · rfl
      · exact Vm.b107
      · exact Vm.b10
      · exact fun β => by rw [hm1]; rfl
      · exact Vm.b107
    · rw [nilS_t hnj, nilS_t hnj]
      repeat' (first | refine Ctl.h ?_ | ((with_reducible intro hif); first | (focus (cases hif; done)) | (simp only [JH] at hif; try (exfalso; omega)) | (try (exfalso; omega))) | ((first | ((with_reducible apply J22 cM18_ok tab_ok); (· rfl)) | ((with_reducible apply J23 fol cM18_ok tab_ok); (· rfl)) | with_reducible apply J24); (· exact Vm.b111); (try kernel_rfl); (try exact Vm.b22)) | fail)
      apply At.endsPick [0, 1, 2, 3, 4, 8, 10] tab_ok (fn := Tryz.f72) (rs := [.cell 4 60]) Anc.refl hro (Nat.le_of_ble_eq_true rfl) rfl
      · exact Vm.b18
      · exact Vm.b24
      · rfl
      · rfl
      · rfl
      · exact Vm.b108
      · rfl
      · exact Vm.b107
      · exact Vm.b10
      · exact fun β => by rw [hm1]; rfl
      · exact Vm.b107
theorem made18N (a d s : Int) (rg : Nat → Int) (cs : List Int) (P : List Ins) (hP : P.length ≤ 1000000) (p p2 : Nat) (hcp : cs.length ≤ p) (ha : 0 ≤ a ∧ a ≤ 255) (hd : 0 ≤ d ∧ d ≤ 4294967295) (hs : 0 ≤ s ∧ s ≤ 255) (hm : (mSnd (s.tmod 21).toNat).isEmpty = true) : LitOk Tryz.prog 72 [.agg [.int .u8 a, .arr 8 1 (fun q => .int .i64 (rg q)), .sl 1 2 [] 1 0 cs.length (some p), .int .u32 d, .int .u8 s], .sl 3 4 [] 5 0 P.length (some p2)] [.gone, .gone, .ro (.arr cs.length 1 (i64S cs)), .gone, .ro (.arr P.length 5 (prS P))]
    (.agg [.int .i64 (a.tmod ((max P.length 1 : Nat) : Int)), .bool false, .arr 8 1 (fun q => .int .i64 (rg q)), .sl 5 5 [] 1 0 (cs.take 12).length none, .int .i64 d, .sl 0 0 [] 0 0 0 (some 0)]) [.gone, .gone, .gone, .gone, .gone, .own 2 (.arr (cs.take 12).length 1 (i64S (cs.take 12))) false] := by
  have H := made18_lit a d s rg cs P hP p p2 hcp ha hd hs
  rw [nilS_t hm] at H
  intro w0 M β w R
  refine (H w0 M β w R).mono fun e w' ⟨β', h1, h2, h3, h4⟩ => ⟨β', h1, h2.less (fun i => ?_) rfl (fun i => ?_), ?_, h4⟩
  · rcases i with _ | _ | _ | _ | _ | _ | i
    · exact .same _
    · exact .same _
    · exact .same _
    · exact .same _
    · exact .same _
    · exact .same _
    · exact .dead _
  · rcases i with _ | _ | _ | _ | _ | _ | i
    · trivial
    · trivial
    · trivial
    · trivial
    · trivial
    · exact fun q => i64S_stable q
    · trivial
  · simp [Stable, StableL, hp, HB.born]
theorem made18S (a d s : Int) (rg : Nat → Int) (cs : List Int) (P : List Ins) (hP : P.length ≤ 1000000) (p p2 : Nat) (hcp : cs.length ≤ p) (ha : 0 ≤ a ∧ a ≤ 255) (hd : 0 ≤ d ∧ d ≤ 4294967295) (hs : 0 ≤ s ∧ s ≤ 255) (hm : (mSnd (s.tmod 21).toNat).isEmpty = false) : LitOk Tryz.prog 72 [.agg [.int .u8 a, .arr 8 1 (fun q => .int .i64 (rg q)), .sl 1 2 [] 1 0 cs.length (some p), .int .u32 d, .int .u8 s], .sl 3 4 [] 5 0 P.length (some p2)] [.gone, .gone, .ro (.arr cs.length 1 (i64S cs)), .gone, .ro (.arr P.length 5 (prS P))]
    (.agg [.int .i64 (a.tmod ((max P.length 1 : Nat) : Int)), .bool false, .arr 8 1 (fun q => .int .i64 (rg q)), .sl 5 5 [] 1 0 (cs.take 12).length none, .int .i64 d, .sl 6 6 [] 3 0 (mSnd (s.tmod 21).toNat).length none]) [.gone, .gone, .gone, .gone, .gone, .own 2 (.arr (cs.take 12).length 1 (i64S (cs.take 12))) false, .own 125 (.arr (mSnd (s.tmod 21).toNat).length 3 (sndsS (mSnd (s.tmod 21).toNat))) false] := by
  have H := made18_lit a d s rg cs P hP p p2 hcp ha hd hs
  rwa [nilS_f hm] at H
def sMd18N : Spec := fun args h m => match args with
  | [.agg [v1, .arr 8 1 v2, v3, v4, v5], v6] => match srcV h 1 (.tup []) v3, srcV h 5 (.tup []) v6 with
    | some (c3, n3, f3, r3), some (c6, n6, f6, r6) => bif isI .u8 v1 && isI .u32 v4 && isI .u8 v5 then some (c3 ∧ c6 ∧ (∀ q, q < n3 → isI .i64 (f3 q) = true) ∧ (∀ q, q < n6 → isIns (f6 q) = true) ∧ (∀ q, q < 8 → isI .i64 (v2 q) = true) ∧ (0 ≤ (iOf v1) ∧ (iOf v1) ≤ 255) ∧ (0 ≤ (iOf v4) ∧ (iOf v4) ≤ 4294967295) ∧ (0 ≤ (iOf v5) ∧ (iOf v5) ≤ 255) ∧ (n6 ≤ 1000000) ∧ ((mSnd ((iOf v5).tmod 21).toNat).isEmpty = true), .agg [.int .i64 ((iOf v1).tmod ((max (ls insOf n6 f6).length 1 : Nat) : Int)), .bool false, .arr 8 1 (fun q => .int .i64 (iOf (v2 q))), .sl m m [] 1 0 ((ls iOf n3 f3).take 12).length none, .int .i64 (iOf v4), .sl 0 0 [] 0 0 0 (some 0)], r3 ++ r6, [(m, .own 2 (.arr ((ls iOf n3 f3).take 12).length 1 (i64S ((ls iOf n3 f3).take 12))) false)]) else none
    | _, _ => none
  | _ => none
theorem sMd18N_ok : CallOk Tryz.prog 72 sMd18N := by
  refine ⟨named_spec (by kernel_rfl), fun args h m c v rd wr hs hm hc w0 M β h' w R hrd hwr hst => ?_⟩
  unfold sMd18N at hs
  split at hs
  · rename_i v1 v2 v3 v4 v5 v6
    split at hs
    · rename_i c3 n3 f3 r3 c6 n6 f6 r6 a3 a6
      obtain ⟨hb, hs⟩ := bif_some hs
      simp only [Option.some.injEq, Prod.mk.injEq] at hs
      obtain ⟨rfl, rfl, rfl, rfl⟩ := hs
      simp only [Bool.and_eq_true] at hb
      obtain ⟨⟨b1, b4⟩, b5⟩ := hb
      obtain ⟨k3, k6, g3, g6, g2, y1, y2, y3, y4, y5⟩ := hc
      obtain ⟨A3, p3, d3, e3, t3⟩ := reads_src R a3 k3 (fun i hi => hrd i (List.mem_append_left _ hi)) (by omega)
      obtain ⟨A6, p6, d6, e6, t6⟩ := reads_src R a6 k6 (fun i hi => hrd i (List.mem_append_right _ hi)) (by omega)
      refine callRo (views := [⟨1, (ls iOf n3 f3).length, i64S (ls iOf n3 f3), A3, p3⟩, ⟨5, (ls insOf n6 f6).length, prS (ls insOf n6 f6), A6, p6⟩]) (made18N (iOf v1) (iOf v4) (iOf v5) (fun q => iOf (v2 q)) (ls iOf n3 f3) (ls insOf n6 f6) (by rw [ls_length]; exact y4) p3 p6 (by rw [ls_length]; exact e3) y1 y2 y3 y5) ?_ R hm hwr ?_ ?_ ?_
      · intro x hx
        simp only [List.mem_cons, List.not_mem_nil, or_false] at hx
        rcases hx with rfl | rfl
        · exact viewI64 t3 e3 g3
        · exact viewIns t6 e6 g6
      · intro β1 hv
        simp only [Vd, ls_length, and_true] at hv
        obtain ⟨z3, z6⟩ := hv
        simp only [denL, aggDen, intDen, natDen, boolDen, ls_length, z3, z6, d3, d6, isI_den b1, isI_den b4, isI_den b5, ← r8Den (β := β) (β1 := β1) g2]
      · exact Vm.b107
      · exact Vm.b107
    · cases hs
  · cases hs
def sMd18S : Spec := fun args h m => match args with
  | [.agg [v1, .arr 8 1 v2, v3, v4, v5], v6] => match srcV h 1 (.tup []) v3, srcV h 5 (.tup []) v6 with
    | some (c3, n3, f3, r3), some (c6, n6, f6, r6) => bif isI .u8 v1 && isI .u32 v4 && isI .u8 v5 then some (c3 ∧ c6 ∧ (∀ q, q < n3 → isI .i64 (f3 q) = true) ∧ (∀ q, q < n6 → isIns (f6 q) = true) ∧ (∀ q, q < 8 → isI .i64 (v2 q) = true) ∧ (0 ≤ (iOf v1) ∧ (iOf v1) ≤ 255) ∧ (0 ≤ (iOf v4) ∧ (iOf v4) ≤ 4294967295) ∧ (0 ≤ (iOf v5) ∧ (iOf v5) ≤ 255) ∧ (n6 ≤ 1000000) ∧ ((mSnd ((iOf v5).tmod 21).toNat).isEmpty = false), .agg [.int .i64 ((iOf v1).tmod ((max (ls insOf n6 f6).length 1 : Nat) : Int)), .bool false, .arr 8 1 (fun q => .int .i64 (iOf (v2 q))), .sl m m [] 1 0 ((ls iOf n3 f3).take 12).length none, .int .i64 (iOf v4), .sl (m + 1) (m + 1) [] 3 0 (mSnd ((iOf v5).tmod 21).toNat).length none], r3 ++ r6, [(m, .own 2 (.arr ((ls iOf n3 f3).take 12).length 1 (i64S ((ls iOf n3 f3).take 12))) false), (m + 1, .own 125 (.arr (mSnd ((iOf v5).tmod 21).toNat).length 3 (sndsS (mSnd ((iOf v5).tmod 21).toNat))) false)]) else none
    | _, _ => none
  | _ => none
theorem sMd18S_ok : CallOk Tryz.prog 72 sMd18S := by
  refine ⟨named_spec (by kernel_rfl), fun args h m c v rd wr hs hm hc w0 M β h' w R hrd hwr hst => ?_⟩
  unfold sMd18S at hs
  split at hs
  · rename_i v1 v2 v3 v4 v5 v6
    split at hs
    · rename_i c3 n3 f3 r3 c6 n6 f6 r6 a3 a6
      obtain ⟨hb, hs⟩ := bif_some hs
      simp only [Option.some.injEq, Prod.mk.injEq] at hs
      obtain ⟨rfl, rfl, rfl, rfl⟩ := hs
      simp only [Bool.and_eq_true] at hb
      obtain ⟨⟨b1, b4⟩, b5⟩ := hb
      obtain ⟨k3, k6, g3, g6, g2, y1, y2, y3, y4, y5⟩ := hc
      obtain ⟨A3, p3, d3, e3, t3⟩ := reads_src R a3 k3 (fun i hi => hrd i (List.mem_append_left _ hi)) (by omega)
      obtain ⟨A6, p6, d6, e6, t6⟩ := reads_src R a6 k6 (fun i hi => hrd i (List.mem_append_right _ hi)) (by omega)
      refine callRo (views := [⟨1, (ls iOf n3 f3).length, i64S (ls iOf n3 f3), A3, p3⟩, ⟨5, (ls insOf n6 f6).length, prS (ls insOf n6 f6), A6, p6⟩]) (made18S (iOf v1) (iOf v4) (iOf v5) (fun q => iOf (v2 q)) (ls iOf n3 f3) (ls insOf n6 f6) (by rw [ls_length]; exact y4) p3 p6 (by rw [ls_length]; exact e3) y1 y2 y3 y5) ?_ R hm hwr ?_ ?_ ?_
      · intro x hx
        simp only [List.mem_cons, List.not_mem_nil, or_false] at hx
        rcases hx with rfl | rfl
        · exact viewI64 t3 e3 g3
        · exact viewIns t6 e6 g6
      · intro β1 hv
        simp only [Vd, ls_length, and_true] at hv
        obtain ⟨z3, z6⟩ := hv
        simp only [denL, aggDen, intDen, natDen, boolDen, ls_length, z3, z6, d3, d6, isI_den b1, isI_den b4, isI_den b5, ← r8Den (β := β) (β1 := β1) g2]
      · exact Vm.b107
      · exact Vm.b107
    · cases hs
  · cases hs
end Go.Proofs.YtjliakjbdcplcaaGreat.Vm
end

section
namespace Go.Proofs.YtjliakjbdcplcaaGreat.Vm
open Go.RowKit
set_option linter.unusedVariables false
set_option linter.unusedSimpArgs false
set_option maxRecDepth 100000
set_option maxHeartbeats 4000000
def capB : SV → Prop
  | .sl _ _ _ _ _ n (some cp) => max n cp ≤ 9223372036854775807
  | _ => False
theorem capB_le {v : SV} {β : Env} {A : Option Addr} {n p : Nat} (h : capB v) (d : v.den β = .slice A n p) : p ≤ 9223372036854775807 := by
  cases v with
  | sl z i pa k s n' c => cases c with
    | none => exact h.elim
    | some cp =>
      have h' : max n' cp ≤ 9223372036854775807 := h
      simp only [SV.den, Option.getD_some] at d
      injection d with _ _ h3
      omega
  | _ => exact h.elim
end Go.Proofs.YtjliakjbdcplcaaGreat.Vm
end

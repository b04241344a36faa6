import Derived.Test.YtjliakjbdcplcaaP5
import Derived.Test.YtjliakjbdcplcaaP6
import Derived.Test.YtjliakjbdcplcaaP7
import Derived.Test.YtjliakjbdcplcaaP8
import Derived.Test.YtjliakjbdcplcaaP9
import Derived.Test.YtjliakjbdcplcaaP11
import Derived.Test.YtjliakjbdcplcaaP12
import Derived.Test.YtjliakjbdcplcaaP13
section
namespace Go.Proofs.Ytjliakjbdcplcaa.Vm
theorem b99 {P : Prop} (h : P := by (repeat' (first | exact trivial | exact rfl | assumption | apply Stable.ite | apply And.intro | intro _ | (simp only [Stable, StableL, DnI.at_, dnS, dnR, i64S, prS, insS, sndsS, sndS, evtsS, evtS, prO, i64O, inO, cB, sB, HB.stable]; done)))) : P := h
theorem b100 {P : Prop} (h : P := by (simp only [push_cast, ↓JP, Nat.reduceAdd, Nat.reduceEqDiff, Nat.reduceLT, Nat.reduceMul, Nat.reduceLeDiff, reduceCtorEq, reduceIte, ↓JK, JM, JE, JB, prc_eta, dnB, dnS, DnI.at_, DnI.v, dnR, evO_, cHaG, sRunG, sRunB, rCF, rH2, cloP, dnI, nodupN, memN, isI_int, iOf, evtS, inR, inN, hRO, hkl, hY, s0, s1]; rfl)) : P := h
theorem b101 {P : Prop} (h : P := by (focus (first | exact True.intro | ((try simp only [JS, implies_true, forall_const, shaped, shapedL, kndOf, ls_sndsS, ls_sndsS', ls_i64S', ls_i64S, ls_length, hRO]); (repeat' (first | exact True.intro | assumption | omega | apply And.intro | rfl | decide | intro _)); done) | ((try simp only [JS, implies_true, forall_const, shaped, shapedL, kndOf, inR, inN]); (repeat' (first | assumption | exact True.intro | omega | apply And.intro)); done)))) : P := h
theorem b102 {P : Prop} (h : P := by (repeat' (first | exact trivial | exact rfl | assumption | apply Stable.ite | apply And.intro | intro _ | (simp only [Stable, StableL, pcS, dnB, DnI.at_, dnS, dnR, i64S, prS, insS, sndsS, sndS, evtsS, evtS, prO, i64O, inO, evO_, cB, sB, HB.stable]; done)))) : P := h
theorem b103 {P : Prop} (h : P := by (first | exact True.intro | ((try simp only [JS, implies_true, forall_const, shaped, shapedL, kndOf, ls_sndsS, ls_sndsS', ls_i64S', ls_i64S, ls_length, hRO]); (repeat' (first | exact True.intro | assumption | omega | apply And.intro | rfl | decide | intro _)); done) | ((try simp only [JS, implies_true, forall_const, shaped, shapedL, kndOf]); (repeat' (first | assumption | exact True.intro | omega | apply And.intro)); done))) : P := h
theorem b104 {P : Prop} (h : P := by (simp only [push_cast, ↓JP, Nat.reduceAdd, Nat.reduceEqDiff, Nat.reduceLT, Nat.reduceMul, Nat.reduceLeDiff, reduceCtorEq, reduceIte, ↓JK, dnB, dnS, evO_, cHaG, hRO, hb, hg, hq]; rfl)) : P := h
theorem b105 {P : Prop} (h : P := by (first | exact True.intro | ((try simp only [JS, implies_true, forall_const, shaped, shapedL, kndOf, ls_prS, ls_prS', ls_i64S', ls_i64S, ls_evtsS', ls_evtsS, ls_length, evtOf_evtS, prc_eta, iOf]); (repeat' (first | exact True.intro | assumption | omega | apply And.intro | rfl | decide | intro _)); done) | ((try simp only [JS, implies_true, forall_const, shaped, shapedL, kndOf]); (repeat' (first | assumption | exact True.intro | omega | apply And.intro)); done))) : P := h
theorem b106 {P : Prop} (h : P := by (simp only [push_cast, ↓JP, Nat.reduceAdd, Nat.reduceEqDiff, Nat.reduceLT, Nat.reduceMul, Nat.reduceLeDiff, reduceCtorEq, reduceIte, ↓JK, cO0, evm_ev, ↓evtS_sz, ↓evtS_ag, ↓evtS_pl, nav_evt, rul_eta, ls_zero, JB, dnS, dnR, dnB, evO_, dn0, hE0, ht]; rfl)) : P := h
end Go.Proofs.Ytjliakjbdcplcaa.Vm
end
section
namespace Go.Proofs.Ytjliakjbdcplcaa.Vm
open Go.RowKit
attribute [local push_cast] runR opG gtmp gval gus opX tmpsOf tm tmO tmP restr look look2 tab tys zs ets eqB eqBL allB numOf ieq Int.cast_ofNat_Int Int.ofNat_zero beq_true beq_false frameOf ev evL ofV opV loadV noW pushF wrsL setH allBorn allGone HB.born HB.isGone HB.val SV.plain dstOk hp nav fitsT SV.size sizeL SV.isAgg TK.size TK.agg bin binE binN binI arN arI cmpN cmpI keq kn narrow callV storeV setp fillV buildV buildSliceV makeV sliceV appendV appendFV slice3V copyV List.isEmpty_nil srcV evO asN ite_t ite_f ite_bool ite_int ite_nat maxV v_beq v_ble v_blt cond_true cond_false List.getElem?_cons_zero List.getElem?_cons_succ List.getD_cons_zero List.getD_cons_succ List.getD_nil List.length_cons List.length_nil List.take_succ_cons List.take_zero List.set_cons_zero List.set_cons_succ List.cons_append List.nil_append List.append_assoc List.replicate_succ List.replicate_zero Nat.zero_add Nat.add_zero decide_true decide_false Bool.true_and Bool.and_true Bool.false_and Bool.and_false Bool.true_or Bool.or_true Bool.false_or Bool.or_false beq_self_eq_true Bool.or_self Nat.lt_irrefl Nat.not_lt_zero Nat.le_refl Option.getD_some Option.getD_none BEq.rfl Bool.not_true Bool.not_false Bool.cond_true_left Bool.cond_false_right prS sndsS i64S nav_ins nav_ins0 nav_ins1 nav_ins2 nav_ins3 nav_ins4 nav_snd nav_snd0 nav_snd1 nav_snd2 isIns_insS insOf_insS isSnd_sndS sndOf_sndS isI_int isI_nat iOf JM JE JB prc_eta DnI.at_ DnI.v dnR sRunG sRunB rCF rH2 cloP dnI nodupN memN evtS inR inN
set_option linter.unusedVariables false
set_option linter.unusedSimpArgs false
set_option maxRecDepth 100000
set_option maxHeartbeats 4000000
def dnS (D : Dn) (i c q j : Nat) : SV := dnR D.p.id D.p.draws D.p.seq D.p.P.length D.p.cells.length D.p.ports.length D.sent.length D.used i c q j
def dnB (D : Dn) (i c q j : Nat) : HB := .own 87 (dnS D i c q j) true
def evO_ (l : List Evt) : HB := .own 39 (.arr l.length 5 (evtsS l)) false
theorem less_appE {t n : Nat} {σ : Nat → Nat} (S : List Evt) (x : Evt) (hn : S.length = n) {g : Nat → SV} {xv z : SV} (hg : g = fun q => SV.ite (decide (q < n)) (evtS (S.getD q ⟨0, 0, 0, 0, 0⟩)) ([xv].getD (q - n) z)) (hx : ∀ β, xv.cl β = x.cells) :
    Less (.own t (.arr (n + 1) 5 g) false) ((HB.own t (.arr (n + 1) 5 (evtsS (S ++ [x]))) false).ren σ) := by
  have e : (HB.own t (.arr (n + 1) 5 (evtsS (S ++ [x]))) false).ren σ = .own t (.arr (n + 1) 5 (evtsS (S ++ [x]))) false := by
    simp only [HB.ren, SV.ren]; rw [evtsS_ren]
  rw [e]
  refine .val (fun β => arrCl fun q hq => ?_) (fun n1 k1 f1 e => by injection e with e1 e2 e3; subst e1 e2; exact ⟨_, rfl⟩) (fun n1 k1 f1 e => by injection e with e1 e2 e3; subst e1 e2; exact ⟨_, rfl⟩)
  subst hg hn
  dsimp only
  rw [ite_eq]
  by_cases h : q < S.length
  · simp only [h, decide_true, cond_true]
    unfold evtsS
    rw [List.getD_eq_getElem?_getD, List.getD_eq_getElem?_getD, List.getElem?_append_left h]
  · have hq' : q = S.length := by omega
    subst hq'
    simp only [h, decide_false, cond_false, Nat.sub_self, List.getD_cons_zero, hx]
    unfold evtsS
    rw [List.getD_eq_getElem?_getD, List.getElem?_append_right (Nat.le_refl _), Nat.sub_self, isEvt_cl (isEvt_evtS _), evtOf_evtS]; rfl
def cHaG : FuncId → Option Spec := look2 [(29, sRunG), (30, rCF), (81, rH2)]
theorem cHaG_ok : ∀ f S, cHaG f = some S → CallOk Try.prog f S := allOk_spec ⟨sRunG_ok, rCF_ok, rH2_ok, trivial⟩
def cHaN : FuncId → Option Spec := look2 [(29, sRunG)]
theorem cHaN_ok : ∀ f S, cHaN f = some S → CallOk Try.prog f S := allOk_spec ⟨sRunG_ok, trivial⟩
def cHaB : FuncId → Option Spec := look2 [(29, sRunB)]
theorem cHaB_ok : ∀ f S, cHaB f = some S → CallOk Try.prog f S := allOk_spec ⟨sRunB_ok, trivial⟩
structure HG (r : Rul) (p : Prc) (e : Evt) : Prop where
  hr : r.rightB = true
  hp : p.rightB = true
  ok : ∀ x ∈ p.P, x.ok
  t0 : 0 ≤ e.time
  t1 : e.time ≤ 281474976710656
theorem HG.si {r : Rul} {p : Prc} {e : Evt} (h : HG r p e) (hb : (hR r p e).bad = 0) : SI p.P (hV r p e.time) p.cells p.draws (hR r p e).tr (hR r p e).s ∧ SG p.P (hR r p e).s := by
  have hO := proc_open (e := e) h.hr h.hp ⟨h.t0, h.t1⟩
  have hf := of_decide_eq_true (show decide _ = true from h.hr)
  have e1 : hR r p e = runA p.P (hV r p e.time) r.fuel.toNat (hB p e) Ins0 [] 0 := runO_of hO hf.2.2.1 hf.2.2.2
  have hPG : PG p.P := ⟨h.ok, (openE_zero hO).1⟩
  have hSG : SG p.P (hB p e) := SG.of (openE_zero hO).2.2 (by simp [hB, begS])
  refine ⟨?_, by rw [e1]; exact runA_good hPG _ _ _ _ _ hSG⟩
  rw [e1] at hb ⊢
  exact si_run hPG _ _ _ _ _ ⟨(fun k hk => by cases hk), rfl, (by simp [hB, begS, cnt]), rfl, (by rw [show (hB p e).cells = p.cells from rfl, chg_self]; exact Nat.zero_le _), (fun y hy => by cases hy)⟩ hSG hb
theorem HG.len {r : Rul} {p : Prc} {e : Evt} (h : HG r p e) : ((hR r p e).tr.length : Int) ≤ r.fuel := by
  have hO := proc_open (e := e) h.hr h.hp ⟨h.t0, h.t1⟩
  have hf := of_decide_eq_true (show decide _ = true from h.hr)
  exact runO_le hO hf.2.2.1 hf.2.2.2
theorem han_bad (r : Rul) (D : Dn) (e : Evt) (hG : HG r D.p e) (hs : D.sent.length ≤ 1000000) (hu : D.used ≤ 1000000000) (hb : (hR r D.p e).bad ≠ 0) : LitOk Try.prog 55 [.ptr 1 [], .agg [.int .u64 r.seed, .int .i64 r.ahead, .int .i64 r.fuel], evtS e]
    [.gone, dnB D 2 3 4 5, .ro (.arr D.p.P.length 5 (prS D.p.P)), .ro (.arr D.p.cells.length 1 (i64S D.p.cells)), .ro (.arr D.p.ports.length 1 (i64S D.p.ports)), evO_ D.sent]
    (.int .i64 (hR r D.p e).bad) [.gone, dnB D 2 3 4 5, .gone, .gone, .gone, evO_ D.sent] := by
  obtain ⟨p, sent, used⟩ := D
  dsimp only at hG hs hu ⊢
  obtain ⟨R, hRR⟩ : ∃ R, hR r p e = R := ⟨_, rfl⟩
  have hRO : runO p.P ⟨r.seed, p.id, p.ports.length, r.ahead, e.time⟩ (begS e.value e.time e.source p.cells p.draws) r.fuel = R := hRR
  obtain ⟨h1, ⟨h2, h3⟩, h4, h5, h6, h7, h8, h9, h10⟩ := rightB_iff.1 hG.hp
  have hok := hG.ok
  have hPl := (right_last' h1).2.1
  have hn : p.P.length ≤ 1000000 := by omega
  have hc : p.cells.length ≤ 1000000 := by omega
  have t0 := hG.t0
  have t1 := hG.t1
  have hlen := hG.len
  have hf := of_decide_eq_true (show decide _ = true from hG.hr)
  rw [hRR] at hb ⊢

  refine litOkM (fn := Try.f55) 6 142 0 rfl rfl rfl rfl rfl (by simp only [StableL, Stable, hp, DnI.at_, dnS, dnR, i64S, prS, insS, sndsS, sndS, evtsS, evtS, prO, i64O, inO, cB, sB, HB.stable]; simp [HB.born, dnB, dnS, dnR, evO_, evtS]) rfl fun w0 M E hro => ?_
  repeat' (first | refine Ctl.h ?_ | ((with_reducible intro hif); first | (focus (cases hif; done)) | (simp only [JH] at hif; try (exfalso; omega)) | (try (exfalso; omega))) | ((first | ((with_reducible apply J22 cHaB_ok tab_ok); (· rfl)) | ((with_reducible apply J23 fol cHaB_ok tab_ok); (· rfl)) | with_reducible apply J24); (· (simp only [push_cast, ↓JP, Nat.reduceAdd, Nat.reduceEqDiff, Nat.reduceLT, Nat.reduceMul, Nat.reduceLeDiff, reduceCtorEq, reduceIte, ↓JK, dnB, dnS, evO_, cHaB, hRO, hb]; rfl)); (try kernel_rfl); (try exact Vm.b103)) | fail)
  apply At.endsPick [0, 1, 2, 3, 4, 5] tab_ok (fn := Try.f55) (rs := [.tmp 6]) Anc.refl hro (Nat.le_of_ble_eq_true rfl) rfl
  · exact Vm.b18
  · exact Vm.b24
  · rfl
  · rfl
  · rfl
  · exact Vm.b37
  · rfl
  · exact Vm.b99
  · exact Vm.b10
  · exact fun β => rfl
  · exact Vm.b99
theorem han_gone (r : Rul) (D : Dn) (e : Evt) (hG : HG r D.p e) (hs : D.sent.length ≤ 1000000) (hu : D.used ≤ 1000000000) (hb : (hR r D.p e).bad = 0) (hg : (hR r D.p e).s.sends.any (gonB D.p.ports) = true) : LitOk Try.prog 55 [.ptr 1 [], .agg [.int .u64 r.seed, .int .i64 r.ahead, .int .i64 r.fuel], evtS e]
    [.gone, dnB D 2 3 4 5, .ro (.arr D.p.P.length 5 (prS D.p.P)), .ro (.arr D.p.cells.length 1 (i64S D.p.cells)), .ro (.arr D.p.ports.length 1 (i64S D.p.ports)), evO_ D.sent]
    (.int .i64 285) [.gone, dnB D 2 3 4 5, .gone, .gone, .gone, evO_ D.sent] := by
  obtain ⟨p, sent, used⟩ := D
  dsimp only at hG hs hu ⊢
  obtain ⟨R, hRR⟩ : ∃ R, hR r p e = R := ⟨_, rfl⟩
  have hRO : runO p.P ⟨r.seed, p.id, p.ports.length, r.ahead, e.time⟩ (begS e.value e.time e.source p.cells p.draws) r.fuel = R := hRR
  obtain ⟨h1, ⟨h2, h3⟩, h4, h5, h6, h7, h8, h9, h10⟩ := rightB_iff.1 hG.hp
  have hok := hG.ok
  have hPl := (right_last' h1).2.1
  have hn : p.P.length ≤ 1000000 := by omega
  have hc : p.cells.length ≤ 1000000 := by omega
  have t0 := hG.t0
  have t1 := hG.t1
  have hlen := hG.len
  have hf := of_decide_eq_true (show decide _ = true from hG.hr)
  have hSI := hG.si hb
  rw [hRR] at hb hSI hlen
  obtain ⟨hI, hGR⟩ := hSI
  have hcR := hGR.c1
  have hnR := hGR.n1
  have hS : ∀ s ∈ R.s.sends, 0 ≤ s.port ∧ s.port.toNat < p.ports.length := fun s hs => by
    have := hI.s s hs
    have h := this.2.1
    change s.port < (p.ports.length : Int) at h
    omega
  rw [hRR] at hg

  refine litOkM (fn := Try.f55) 6 142 0 rfl rfl rfl rfl rfl (by simp only [StableL, Stable, hp, DnI.at_, dnS, dnR, i64S, prS, insS, sndsS, sndS, evtsS, evtS, prO, i64O, inO, cB, sB, HB.stable]; simp [HB.born, dnB, dnS, dnR, evO_, evtS]) rfl fun w0 M E hro => ?_
  repeat' (first | refine Ctl.h ?_ | ((with_reducible intro hif); first | (focus (cases hif; done)) | (simp only [JH] at hif; try (exfalso; omega)) | (try (exfalso; omega))) | ((first | ((with_reducible apply J22 cHaG_ok tab_ok); (· rfl)) | ((with_reducible apply J23 fol cHaG_ok tab_ok); (· rfl)) | with_reducible apply J24); (· (simp only [push_cast, ↓JP, Nat.reduceAdd, Nat.reduceEqDiff, Nat.reduceLT, Nat.reduceMul, Nat.reduceLeDiff, reduceCtorEq, reduceIte, ↓JK, dnB, dnS, evO_, cHaG, hRO, hb, hg]; rfl)); (try kernel_rfl); (try exact Vm.b103)) | fail)
  apply At.endsPick [0, 1, 2, 3, 4, 5] tab_ok (fn := Try.f55) (rs := [.tmp 6]) Anc.refl hro (Nat.le_of_ble_eq_true rfl) rfl
  · exact Vm.b18
  · exact Vm.b24
  · rfl
  · rfl
  · rfl
  · exact Vm.b37
  · rfl
  · exact Vm.b99
  · exact Vm.b10
  · exact fun β => rfl
  · exact Vm.b99
theorem han_seq (r : Rul) (D : Dn) (e : Evt) (hG : HG r D.p e) (hs : D.sent.length ≤ 1000000) (hu : D.used ≤ 1000000000) (hb : (hR r D.p e).bad = 0) (hg : (hR r D.p e).s.sends.any (gonB D.p.ports) = false) (hq : 4294967296 < D.p.seq + (hR r D.p e).s.sends.length) : LitOk Try.prog 55 [.ptr 1 [], .agg [.int .u64 r.seed, .int .i64 r.ahead, .int .i64 r.fuel], evtS e]
    [.gone, dnB D 2 3 4 5, .ro (.arr D.p.P.length 5 (prS D.p.P)), .ro (.arr D.p.cells.length 1 (i64S D.p.cells)), .ro (.arr D.p.ports.length 1 (i64S D.p.ports)), evO_ D.sent]
    (.int .i64 284) [.gone, dnB D 2 3 4 5, .gone, .gone, .gone, evO_ D.sent] := by
  obtain ⟨p, sent, used⟩ := D
  dsimp only at hG hs hu ⊢
  obtain ⟨R, hRR⟩ : ∃ R, hR r p e = R := ⟨_, rfl⟩
  have hRO : runO p.P ⟨r.seed, p.id, p.ports.length, r.ahead, e.time⟩ (begS e.value e.time e.source p.cells p.draws) r.fuel = R := hRR
  obtain ⟨h1, ⟨h2, h3⟩, h4, h5, h6, h7, h8, h9, h10⟩ := rightB_iff.1 hG.hp
  have hok := hG.ok
  have hPl := (right_last' h1).2.1
  have hn : p.P.length ≤ 1000000 := by omega
  have hc : p.cells.length ≤ 1000000 := by omega
  have t0 := hG.t0
  have t1 := hG.t1
  have hlen := hG.len
  have hf := of_decide_eq_true (show decide _ = true from hG.hr)
  have hSI := hG.si hb
  rw [hRR] at hb hSI hlen
  obtain ⟨hI, hGR⟩ := hSI
  have hcR := hGR.c1
  have hnR := hGR.n1
  have hS : ∀ s ∈ R.s.sends, 0 ≤ s.port ∧ s.port.toNat < p.ports.length := fun s hs => by
    have := hI.s s hs
    have h := this.2.1
    change s.port < (p.ports.length : Int) at h
    omega
  rw [hRR] at hg hq
  dsimp only at hq

  refine litOkM (fn := Try.f55) 6 142 0 rfl rfl rfl rfl rfl (by simp only [StableL, Stable, hp, DnI.at_, dnS, dnR, i64S, prS, insS, sndsS, sndS, evtsS, evtS, prO, i64O, inO, cB, sB, HB.stable]; simp [HB.born, dnB, dnS, dnR, evO_, evtS]) rfl fun w0 M E hro => ?_
  repeat' (first | refine Ctl.h ?_ | ((with_reducible intro hif); first | (focus (cases hif; done)) | (simp only [JH] at hif; try (exfalso; omega)) | (try (exfalso; omega))) | ((first | ((with_reducible apply J22 cHaG_ok tab_ok); (· rfl)) | ((with_reducible apply J23 fol cHaG_ok tab_ok); (· rfl)) | with_reducible apply J24); (· exact Vm.b104); (try kernel_rfl); (try exact Vm.b103)) | fail)
  apply At.endsPick [0, 1, 2, 3, 4, 5] tab_ok (fn := Try.f55) (rs := [.tmp 6]) Anc.refl hro (Nat.le_of_ble_eq_true rfl) rfl
  · exact Vm.b18
  · exact Vm.b24
  · rfl
  · rfl
  · rfl
  · exact Vm.b37
  · rfl
  · exact Vm.b99
  · exact Vm.b10
  · exact fun β => rfl
  · exact Vm.b99
theorem han_ok (r : Rul) (D : Dn) (e : Evt) (hG : HG r D.p e) (hs : D.sent.length ≤ 1000000) (hu : D.used ≤ 1000000000) (hb : (hR r D.p e).bad = 0) (hg : (hR r D.p e).s.sends.any (gonB D.p.ports) = false) (hq : ¬ 4294967296 < D.p.seq + (hR r D.p e).s.sends.length) : LitOk Try.prog 55 [.ptr 1 [], .agg [.int .u64 r.seed, .int .i64 r.ahead, .int .i64 r.fuel], evtS e]
    [.gone, dnB D 2 3 4 5, .ro (.arr D.p.P.length 5 (prS D.p.P)), .ro (.arr D.p.cells.length 1 (i64S D.p.cells)), .ro (.arr D.p.ports.length 1 (i64S D.p.ports)), evO_ D.sent]
    (.int .i64 0) [.gone, dnB (hS r D e) 2 6 4 7, .gone, .gone, .gone, .gone, cB (hR r D.p e).s, evO_ (hS r D e).sent] := by
  obtain ⟨p, sent, used⟩ := D
  dsimp only at hG hs hu ⊢
  obtain ⟨R, hRR⟩ : ∃ R, hR r p e = R := ⟨_, rfl⟩
  have hRO : runO p.P ⟨r.seed, p.id, p.ports.length, r.ahead, e.time⟩ (begS e.value e.time e.source p.cells p.draws) r.fuel = R := hRR
  obtain ⟨h1, ⟨h2, h3⟩, h4, h5, h6, h7, h8, h9, h10⟩ := rightB_iff.1 hG.hp
  have hok := hG.ok
  have hPl := (right_last' h1).2.1
  have hn : p.P.length ≤ 1000000 := by omega
  have hc : p.cells.length ≤ 1000000 := by omega
  have t0 := hG.t0
  have t1 := hG.t1
  have hlen := hG.len
  have hf := of_decide_eq_true (show decide _ = true from hG.hr)
  have hSI := hG.si hb
  rw [hRR] at hb hSI hlen
  obtain ⟨hI, hGR⟩ := hSI
  have hcR := hGR.c1
  have hnR := hGR.n1
  have hS : ∀ s ∈ R.s.sends, 0 ≤ s.port ∧ s.port.toNat < p.ports.length := fun s hs => by
    have := hI.s s hs
    have h := this.2.1
    change s.port < (p.ports.length : Int) at h
    omega
  rw [hRR] at hg hq
  dsimp only at hq
  have hHS : Vm.hS r ⟨p, sent, used⟩ e = ⟨{ p with cells := R.s.cells, draws := R.s.draws, seq := p.seq + R.s.sends.length }, sent ++ sentL p e.time p.seq R.s.sends, used + R.tr.length⟩ := by unfold Vm.hS; dsimp only; rw [hRR]
  rw [hHS, hRR]

  refine litOkM (fn := Try.f55) 6 142 0 rfl rfl rfl rfl rfl (by simp only [StableL, Stable, hp, DnI.at_, dnS, dnR, i64S, prS, insS, sndsS, sndS, evtsS, evtS, prO, i64O, inO, cB, sB, HB.stable]; simp [HB.born, dnB, dnS, dnR, evO_, evtS]) rfl fun w0 M E hro => ?_
  repeat' (first | refine Ctl.h ?_ | ((with_reducible intro hif); first | (focus (cases hif; done)) | (simp only [JH] at hif; try (exfalso; omega)) | (try (exfalso; omega))) | ((first | ((with_reducible apply J22 cHaG_ok tab_ok); (· rfl)) | ((with_reducible apply J23 fol cHaG_ok tab_ok); (· rfl)) | with_reducible apply J24); (· exact Vm.b104); (try kernel_rfl); (try exact Vm.b103)) | fail)
  have hz : Less (.own 87 (dnR p.id p.draws p.seq p.P.length p.cells.length p.ports.length sent.length used 2 3 4 13) true) (.own 87 (dnR p.id p.draws (p.seq + ((0 : Nat) : Int)) p.P.length p.cells.length p.ports.length (sent.length + 0) used 2 3 4 13) true) := by rw [show p.seq + ((0 : Nat) : Int) = p.seq from Int.add_zero _]; exact .same _
  have hz2 : Less (.own 39 (.arr sent.length 5 (evtsS sent)) false) (.own 39 (.arr (sent.length + 0) 5 (evtsS (sent ++ sentL p e.time p.seq (R.s.sends.take 0)))) false) := by rw [List.take_zero, show sentL p e.time p.seq [] = [] from rfl, List.append_nil]; exact .same _
  refine At.pick (L2 := [.gone, (.own 87 (dnR p.id p.draws p.seq p.P.length p.cells.length p.ports.length sent.length used 2 3 4 13) true), .ro (.arr p.P.length 5 (prS p.P)), .ro (.arr p.cells.length 1 (i64S p.cells)), .ro (.arr p.ports.length 1 (i64S p.ports)), .gone, .own 136 (.ptr 1 []) true, .own 80 (.agg [.int .u64 r.seed, .int .i64 r.ahead, .int .i64 r.fuel]) true, .own 39 (evtS e) true, .own 30 (.agg [.int .u64 r.seed, .int .i64 p.id, .nat .i64 p.ports.length, .int .i64 r.ahead, .int .i64 e.time]) true, cB R.s, sB R.s, .own 45 (.agg [.nat .i64 R.tr.length, .int .i64 R.at_, .sl 10 10 [] 1 0 R.s.cells.length none, .int .i64 R.s.draws, .sl 11 11 [] 3 0 R.s.sends.length none]) true, .own 39 (.arr sent.length 5 (evtsS sent)) false]) (φ2 := [(3, .ptr 6 []), (4, .ptr 7 []), (5, .ptr 8 []), (8, .ptr 12 []), (10, .fn 81 [.ptr 6 []]), (78, .sl 11 11 [] 3 0 R.s.sends.length none), (79, .nat .i64 R.s.sends.length), (80, .nat .i64 0)]) [0, 1, 2, 3, 4, 5, 6, 7, 8, 9, 10, 11, 12, 5] rfl rfl rfl ?_ rfl ?_ ?_ ?_ rfl ?_
  · exact Vm.b37
  · exact Vm.b99
  · exact Vm.b68
  · exact Vm.b99
  refine WF.loopAt (fun (k : Nat) => k ≤ R.s.sends.length) (fun (k : Nat) => [(3, .ptr 6 []), (4, .ptr 7 []), (5, .ptr 8 []), (8, .ptr 12 []), (10, .fn 81 [.ptr 6 []]), (78, .sl 11 11 [] 3 0 R.s.sends.length none), (79, .nat .i64 R.s.sends.length), (80, .nat .i64 k)]) (fun (k : Nat) => [.gone, (.own 87 (dnR p.id p.draws (p.seq + ((k : Nat) : Int)) p.P.length p.cells.length p.ports.length (sent.length + k) used 2 3 4 13) true), .ro (.arr p.P.length 5 (prS p.P)), .ro (.arr p.cells.length 1 (i64S p.cells)), .ro (.arr p.ports.length 1 (i64S p.ports)), .gone, .own 136 (.ptr 1 []) true, .own 80 (.agg [.int .u64 r.seed, .int .i64 r.ahead, .int .i64 r.fuel]) true, .own 39 (evtS e) true, .own 30 (.agg [.int .u64 r.seed, .int .i64 p.id, .nat .i64 p.ports.length, .int .i64 r.ahead, .int .i64 e.time]) true, cB R.s, sB R.s, .own 45 (.agg [.nat .i64 R.tr.length, .int .i64 R.at_, .sl 10 10 [] 1 0 R.s.cells.length none, .int .i64 R.s.draws, .sl 11 11 [] 3 0 R.s.sends.length none]) true, .own 39 (.arr (sent.length + k) 5 (evtsS (sent ++ sentL p e.time p.seq (R.s.sends.take k)))) false]) (fun (k : Nat) => R.s.sends.length - k) 0 (Nat.zero_le _) ?_ ?_ rfl ?_ ?_ rfl ?_
  · exact Vm.b11
  · exact Vm.b8
  · exact Vm.b99
  · exact Vm.b99
  intro k hk
  by_cases hkl : k < R.s.sends.length
  · obtain ⟨y, hY⟩ : ∃ y, R.s.sends.getD k ⟨0, 0, 0⟩ = y := ⟨_, rfl⟩
    have hym : y ∈ R.s.sends := by
      rw [← hY, List.getD_eq_getElem?_getD, List.getElem?_eq_getElem hkl]; exact List.getElem_mem hkl
    obtain ⟨s0, s1⟩ := hS y hym
    obtain ⟨_, _, s2, s3⟩ := hI.s y hym
    have s2 : r.ahead ≤ y.delay := s2
    have s3 : y.delay ≤ 281474976710656 - e.time := s3
    have htk : R.s.sends.take (k + 1) = R.s.sends.take k ++ [y] := by
      rw [← hY, List.getD_eq_getElem?_getD, List.getElem?_eq_getElem hkl, List.take_add_one, List.getElem?_eq_getElem hkl]; rfl
    have htl : (R.s.sends.take k).length = k := by rw [List.length_take]; omega
    have hST : sent ++ sentL p e.time p.seq (R.s.sends.take (k + 1)) = (sent ++ sentL p e.time p.seq (R.s.sends.take k)) ++ [⟨e.time + y.delay, p.id, p.seq + (k : Int), p.ports.getD y.port.toNat 0, y.value⟩] := by
      rw [htk, sentL_app, htl, List.append_assoc]; rfl
    have hSl : (sent ++ sentL p e.time p.seq (R.s.sends.take k)).length = sent.length + k := by rw [List.length_append, sentL_len, htl]
    have hsq : p.seq + ((k + 1 : Nat) : Int) = p.seq + (k : Int) + 1 := by omega

    repeat' (first | refine Ctl.h ?_ | ((with_reducible intro hif); first | (focus (cases hif; done)) | (simp only [JH] at hif; try (exfalso; omega)) | (try (exfalso; omega))) | ((first | ((with_reducible apply J22 cHaN_ok tab_ok); (· rfl)) | ((with_reducible apply J23 fol cHaN_ok tab_ok); (· rfl)) | with_reducible apply J24); (· (simp only [push_cast, ↓JP, Nat.reduceAdd, Nat.reduceEqDiff, Nat.reduceLT, Nat.reduceMul, Nat.reduceLeDiff, reduceCtorEq, reduceIte, ↓JK, dnB, dnS, evO_, cHaN, hRO, hkl, hY, s0, s1]; rfl)); (try kernel_rfl); (try exact Vm.b103)) | fail)

    with_reducible apply WF.drawn2 10 12 fol cHaG_ok tab_ok
    · rfl
    · exact Vm.b100
    · kernel_rfl
    · rfl
    · rfl
    · exact Vm.b100
    · exact Vm.b101
    · exact Vm.b101
    repeat' (first | refine Ctl.h ?_ | ((with_reducible intro hif); first | (focus (cases hif; done)) | (simp only [JH] at hif; try (exfalso; omega)) | (try (exfalso; omega))) | ((first | ((with_reducible apply J22 cHaG_ok tab_ok); (· rfl)) | ((with_reducible apply J23 fol cHaG_ok tab_ok); (· rfl)) | with_reducible apply J24); (· (simp only [push_cast, ↓JP, Nat.reduceAdd, Nat.reduceEqDiff, Nat.reduceLT, Nat.reduceMul, Nat.reduceLeDiff, reduceCtorEq, reduceIte, ↓JK, dnB, dnS, evO_, cHaG, hRO, hkl, hY, s0, s1]; rfl)); (try kernel_rfl); (try exact Vm.b103)) | fail)
    refine At.nextPick [0, 1, 2, 3, 4, 5, 6, 7, 8, 9, 10, 11, 12, 17] (k + 1) ?_ rfl rfl rfl ?_ rfl ?_ ?_ ?_ rfl
    · exact ⟨hkl, by omega⟩
    · (repeat' (first | exact trivial | exact .inl rfl | exact .inr (.same _) | exact .inr .loose | exact .inr (.arr (by assumption)) | apply And.intro | (rw [hsq]; exact .inr (.same _)) | (rw [hST]; exact .inr (less_appE _ _ hSl rfl (fun β => rfl)))))
    · exact Vm.b99
    · exact Vm.b68
    · exact Vm.b99
  · obtain rfl : k = R.s.sends.length := by omega
    rw [List.take_length]
    have hfin : (sent ++ sentL p e.time p.seq R.s.sends).length = sent.length + R.s.sends.length := by rw [List.length_append, sentL_len]
    repeat' (first | refine Ctl.h ?_ | ((with_reducible intro hif); first | (focus (cases hif; done)) | (simp only [JH] at hif; try (exfalso; omega)) | (try (exfalso; omega))) | ((first | ((with_reducible apply J22 cHaG_ok tab_ok); (· rfl)) | ((with_reducible apply J23 fol cHaG_ok tab_ok); (· rfl)) | with_reducible apply J24); (· (simp only [push_cast, ↓JP, Nat.reduceAdd, Nat.reduceEqDiff, Nat.reduceLT, Nat.reduceMul, Nat.reduceLeDiff, reduceCtorEq, reduceIte, ↓JK, dnB, dnS, evO_, cHaG, hRO]; rfl)); (try kernel_rfl); (try exact Vm.b103)) | fail)
    apply At.endsPick [0, 1, 2, 3, 4, 5, 10, 13] tab_ok (fn := Try.f55) (rs := [.tmp 6]) Anc.refl hro (Nat.le_of_ble_eq_true rfl) rfl
    · exact Vm.b18
    · exact Vm.b24
    · rfl
    · rfl
    · rfl
    · (repeat' (first | exact trivial | exact .inl rfl | exact .inr (.same _) | exact .inr .loose | exact .inr (.arr (by assumption)) | apply And.intro | (simp only [dnB, dnS, evO_, hfin]; exact .inr (.same _))))
    · rfl
    · exact Vm.b99
    · exact Vm.b10
    · exact fun β => rfl
    · exact Vm.b99
end Go.Proofs.Ytjliakjbdcplcaa.Vm
end

section
namespace Go.Proofs.Ytjliakjbdcplcaa.Vm
open Go.RowKit
set_option linter.unusedVariables false
set_option linter.unusedSimpArgs false
set_option maxRecDepth 100000
def donP (h : HM) (d : Nat) : Option (Dn × (Nat × Nat × Nat × Nat) × Prop) := match h d with
  | .own t v true => match dnI v with
    | some y => match (h y.i).val, (h y.c).val, (h y.q).val, h y.j with
      | some (.arr n1 5 f1), some (.arr n2 1 f2), some (.arr n3 1 f3), .own t4 (.arr n4 5 f4) false =>
        bif (Nat.beq t 87 && Nat.beq t4 39) && ((Nat.beq n1 y.n1 && Nat.beq n2 y.n2) && (Nat.beq n3 y.n3 && Nat.beq n4 y.n4)) then
          some (⟨⟨y.id, ls insOf n1 f1, ls iOf n2 f2, y.dr, y.sq, ls iOf n3 f3⟩, ls evtOf n4 f4, y.u⟩, (y.i, y.c, y.q, y.j), (∀ q, q < n1 → isIns (f1 q) = true) ∧ (∀ q, q < n2 → isI .i64 (f2 q) = true) ∧ (∀ q, q < n3 → isI .i64 (f3 q) = true) ∧ (∀ q, q < n4 → isEvt (f4 q) = true)) else none
      | _, _, _, _ => none
    | none => none
  | _ => none
theorem dnS_at {ρ : Nat → Nat} {D : Dn} {i c q j i' c' q' j' : Nat} (h1 : ρ i' = i) (h2 : ρ c' = c) (h3 : ρ q' = q) (h4 : ρ j' = j) : (dnS D i' c' q' j').ren ρ = dnS D i c q j := by
  simp only [dnS, dnR, SV.ren, renL, h1, h2, h3, h4]
theorem dnB_ren {ρ : Nat → Nat} {D : Dn} {i c q j i' c' q' j' : Nat} (h1 : ρ i' = i) (h2 : ρ c' = c) (h3 : ρ q' = q) (h4 : ρ j' = j) : (dnB D i' c' q' j').ren ρ = dnB D i c q j := by
  simp only [dnB, HB.ren, dnS_at h1 h2 h3 h4]
theorem dnB_st {h : HM} {D : Dn} {i c q j : Nat} (h1 : (h i).born = true) (h2 : (h c).born = true) (h3 : (h q).born = true) (h4 : (h j).born = true) : (dnB D i c q j).stable h := by
  simp [dnB, dnS, dnR, HB.stable, Stable, StableL, h1, h2, h3, h4]
theorem evO_ren {ρ : Nat → Nat} {l : List Evt} : (evO_ l).ren ρ = evO_ l := by
  simp only [evO_, HB.ren, SV.ren]; rw [evtsS_ren]
theorem evO_st {h : HM} {l : List Evt} : (evO_ l).stable h := fun q => evtsS_stable q
theorem donP_val {h : HM} {d : Nat} {D : Dn} {i c q j : Nat} {ok : Prop} (hp : donP h d = some (D, (i, c, q, j), ok)) :
    h d = dnB D i c q j ∧ ∃ f1 f2 f3 f4, (h i).val = some (.arr D.p.P.length 5 f1) ∧ (h c).val = some (.arr D.p.cells.length 1 f2) ∧ (h q).val = some (.arr D.p.ports.length 1 f3) ∧ h j = .own 39 (.arr D.sent.length 5 f4) false ∧
      D.p.P = ls insOf D.p.P.length f1 ∧ D.p.cells = ls iOf D.p.cells.length f2 ∧ D.p.ports = ls iOf D.p.ports.length f3 ∧ D.sent = ls evtOf D.sent.length f4 ∧
      (ok → (∀ q, q < D.p.P.length → isIns (f1 q) = true) ∧ (∀ q, q < D.p.cells.length → isI .i64 (f2 q) = true) ∧ (∀ q, q < D.p.ports.length → isI .i64 (f3 q) = true) ∧ (∀ q, q < D.sent.length → isEvt (f4 q) = true)) := by
  unfold donP at hp
  split at hp
  · rename_i t v hd
    split at hp
    · rename_i y hy
      split at hp
      · rename_i n1 f1 n2 f2 n3 f3 t4 n4 f4 h1 h2 h3 h4
        obtain ⟨hb, hs⟩ := bif_some hp
        simp only [Option.some.injEq, Prod.mk.injEq] at hs
        obtain ⟨rfl, ⟨rfl, rfl, rfl, rfl⟩, rfl⟩ := hs
        simp only [Bool.and_eq_true] at hb
        obtain ⟨⟨b1, b2⟩, ⟨b3, b4⟩, b5, b6⟩ := hb
        have b1 := Nat.eq_of_beq_eq_true b1
        have b2 := Nat.eq_of_beq_eq_true b2
        have b3 := Nat.eq_of_beq_eq_true b3
        have b4 := Nat.eq_of_beq_eq_true b4
        have b5 := Nat.eq_of_beq_eq_true b5
        have b6 := Nat.eq_of_beq_eq_true b6
        subst b1 b2
        have hv := dnI_val hy
        subst hv
        subst b3 b4 b5 b6
        refine ⟨by rw [hd]; simp only [dnB, dnS, DnI.v, ls_length], f1, f2, f3, f4, by rw [ls_length]; exact h1, by rw [ls_length]; exact h2, by rw [ls_length]; exact h3, by rw [ls_length]; exact h4, by dsimp only; rw [ls_length], by dsimp only; rw [ls_length], by dsimp only; rw [ls_length], by dsimp only; rw [ls_length], fun ok => by simpa only [ls_length] using ok⟩
      · cases hp
    · cases hp
  · cases hp
section
variable {ρ : Nat → Nat} {h h' : HM} {i n : Nat}
theorem bun_prD {P : List Ins} {f : Nat → SV} (hp : (h i).val = some (.arr P.length 5 f)) (hf : ∀ q, q < P.length → isIns (f q) = true) (hP : P = ls insOf P.length f) (e : h' i = h i) : Bun1 ρ (h' i) (.ro (.arr P.length 5 (prS P))) := by
  refine Fit.ro (u := .arr P.length 5 f) (by rw [e]; exact hp) (fun β => ?_) (fun n k f e => by simp only [SV.ren] at e; injection e with e1 e2 e3; subst e1 e2; exact ⟨_, rfl⟩)
  simp only [SV.ren]
  rw [prS_ren]
  refine arrCl fun q hq => ?_
  rw [isIns_cl (hf q hq)]
  unfold prS
  rw [isIns_cl (isIns_insS _), insOf_insS]
  conv => rhs; rw [hP]
  rw [ls_getD hq]
theorem bun_i64D {l : List Int} {f : Nat → SV} (hp : (h i).val = some (.arr l.length 1 f)) (hf : ∀ q, q < l.length → isI .i64 (f q) = true) (hl : l = ls iOf l.length f) (e : h' i = h i) : Bun1 ρ (h' i) (.ro (.arr l.length 1 (i64S l))) := by
  refine Fit.ro (u := .arr l.length 1 f) (by rw [e]; exact hp) (fun β => ?_) (fun n k f e => by simp only [SV.ren] at e; injection e with e1 e2 e3; subst e1 e2; exact ⟨_, rfl⟩)
  refine arrCl fun q hq => ?_
  rw [isI_cl (hf q hq)]
  unfold i64S
  conv => rhs; rw [hl]
  rw [ls_getD hq]; rfl
theorem bun_evD {l : List Evt} {f : Nat → SV} (hp : h i = .own 39 (.arr l.length 5 f) false) (hf : ∀ q, q < l.length → isEvt (f q) = true) (hl : l = ls evtOf l.length f) (e : h' i = h i) : Bun1 ρ (h' i) (evO_ l) := by
  show Less (h' i) (.own 39 (.arr l.length 5 fun q => (evtsS l q).ren ρ) false)
  rw [e, hp, evtsS_ren]
  refine .val (fun β => arrCl fun q hq => ?_) (fun n k f e => by injection e with e1 e2 e3; subst e1 e2; exact ⟨_, rfl⟩) (fun n k f e => by injection e with e1 e2 e3; subst e1 e2; exact ⟨_, rfl⟩)
  rw [isEvt_cl (hf q hq)]
  unfold evtsS
  rw [isEvt_cl (isEvt_evtS _), evtOf_evtS]
  conv => rhs; rw [hl]
  rw [ls_getD hq]
end
theorem han_err (r : Rul) (D : Dn) (e : Evt) (hG : HG r D.p e) (hs : D.sent.length ≤ 1000000) (hu : D.used ≤ 1000000000) (hE0 : hE r D.p e ≠ 0) : LitOk Try.prog 55 [.ptr 1 [], .agg [.int .u64 r.seed, .int .i64 r.ahead, .int .i64 r.fuel], evtS e]
    [.gone, dnB D 2 3 4 5, .ro (.arr D.p.P.length 5 (prS D.p.P)), .ro (.arr D.p.cells.length 1 (i64S D.p.cells)), .ro (.arr D.p.ports.length 1 (i64S D.p.ports)), evO_ D.sent]
    (.int .i64 (hE r D.p e)) [.gone, dnB D 2 3 4 5, .gone, .gone, .gone, evO_ D.sent] := by
  unfold hE at hE0 ⊢
  by_cases hb : (hR r D.p e).bad = 0
  · rw [if_neg (fun h => h hb)] at hE0 ⊢
    cases hg : (hR r D.p e).s.sends.any (gonB D.p.ports)
    · rw [if_neg (show ¬ (goneB D.p.ports (hR r D.p e).s.sends = true) by rw [show goneB D.p.ports (hR r D.p e).s.sends = false from hg]; exact Bool.noConfusion)] at hE0 ⊢
      by_cases hq : 4294967296 < D.p.seq + (hR r D.p e).s.sends.length
      · rw [if_pos hq]; exact han_seq r D e hG hs hu hb hg hq
      · rw [if_neg hq] at hE0; exact absurd rfl hE0
    · rw [if_pos (show goneB D.p.ports (hR r D.p e).s.sends = true from hg)]
      exact han_gone r D e hG hs hu hb hg
  · rw [if_pos hb]; exact han_bad r D e hG hs hu hb
theorem hE_zero {r : Rul} {p : Prc} {e : Evt} (h : hE r p e = 0) : (hR r p e).bad = 0 ∧ (hR r p e).s.sends.any (gonB p.ports) = false ∧ ¬ 4294967296 < p.seq + (hR r p e).s.sends.length := by
  unfold hE at h
  by_cases hb : (hR r p e).bad = 0
  · rw [if_neg (fun h => h hb)] at h
    cases hg : (hR r p e).s.sends.any (gonB p.ports)
    · rw [if_neg (show ¬ (goneB p.ports (hR r p e).s.sends = true) by rw [show goneB p.ports (hR r p e).s.sends = false from hg]; exact Bool.noConfusion)] at h
      by_cases hq : 4294967296 < p.seq + (hR r p e).s.sends.length
      · rw [if_pos hq] at h; cases h
      · exact ⟨hb, rfl, hq⟩
    · rw [if_pos (show goneB p.ports (hR r p e).s.sends = true from hg)] at h; cases h
  · rw [if_pos hb] at h; exact absurd h hb
def rHaB : Spec := fun args h m => match args with
  | [.ptr d [], .agg [a, b, k], e] => match donP h d with
    | some (D, (i, c, q, j), ok) => bif ((isI .u64 a && isI .i64 b) && (isI .i64 k && isEvt e)) && nodupN [0, d, i, c, q, j] then some (ok ∧ HG ⟨iOf a, iOf b, iOf k⟩ D.p (evtOf e) ∧ D.sent.length ≤ 1000000 ∧ D.used ≤ 1000000000 ∧ hE ⟨iOf a, iOf b, iOf k⟩ D.p (evtOf e) ≠ 0, .int .i64 (hE ⟨iOf a, iOf b, iOf k⟩ D.p (evtOf e)), [d, i, c, q, j], [(d, dnB D i c q j), (j, evO_ D.sent)]) else none
    | none => none
  | _ => none
theorem rHaB_ok : CallOk Try.prog 55 rHaB := by
  refine ⟨named_spec (by kernel_rfl), fun args h m c v rd wr hs hm hc w0 M β h' w R hrd hwr hst => ?_⟩
  unfold rHaB at hs
  split at hs
  · rename_i d a b k e
    split at hs
    · rename_i D i c q j ok hdp
      obtain ⟨hb, hs⟩ := bif_some hs
      simp only [Option.some.injEq, Prod.mk.injEq] at hs
      obtain ⟨rfl, rfl, rfl, rfl⟩ := hs
      simp only [Bool.and_eq_true] at hb
      obtain ⟨⟨⟨b1, b2⟩, b3, b4⟩, hnd⟩ := hb
      obtain ⟨k0, k1, k2, k3, k4⟩ := hc
      obtain ⟨hd, f1, f2, f3, f4, g1, g2, g3, g4, e1, e2, e3, e4, hok⟩ := donP_val hdp
      obtain ⟨o1, o2, o3, o4⟩ := hok k0
      have ea : denL β [.ptr d [], .agg [a, b, k], e] = denL β [.ptr d [], .agg [.int .u64 (iOf a), .int .i64 (iOf b), .int .i64 (iOf k)], evtS (evtOf e)] := by
        simp only [denL, aggDen, intDen, isI_den b1, isI_den b2, isI_den b3]
        rw [den_evtOf b4, den_evtS]
      rw [ea]
      exact bun_ok (h := h) (m := m) [0, d, i, c, q, j] (han_err ⟨iOf a, iOf b, iOf k⟩ D (evtOf e) k1 k2 k3 k4) R rfl (by simp) rfl rfl hnd
        ⟨Fit.gone (by rw [R.nil0]; rfl), (by
          show Less (h' d) ((dnB D 2 3 4 5).ren _)
          rw [hrd d (by simp), hd, dnB_ren (i := i) (c := c) (q := q) (j := j) rfl rfl rfl rfl]; exact .same _), bun_prD g1 o1 e1 (hrd i (by simp)), bun_i64D g2 o2 e2 (hrd c (by simp)), bun_i64D g3 o3 e3 (hrd q (by simp)), bun_evD g4 o4 e4 (hrd j (by simp)), trivial⟩ hm
        (fun p hp => by cases hp) (by simp) rfl
        ⟨trivial, dnB_st rfl rfl rfl rfl, (fun q => prS_stable q), (fun q => i64S_stable q), (fun q => i64S_stable q), evO_st, trivial⟩ ⟨rfl, by simp [Stable, StableL], evtS_stable _, trivial⟩
        ⟨trivial, dnB_st rfl rfl rfl rfl, (fun q => prS_stable q), (fun q => i64S_stable q), (fun q => i64S_stable q), evO_st, trivial⟩ trivial rfl rfl (by
          show [(d, (dnB D 2 3 4 5).ren _), (j, (evO_ D.sent).ren _)] = _
          rw [dnB_ren (i := i) (c := c) (q := q) (j := j) rfl rfl rfl rfl, evO_ren])
    · cases hs
  · cases hs
def rHaG : Spec := fun args h m => match args with
  | [.ptr d [], .agg [a, b, k], e] => match donP h d with
    | some (D, (i, c, q, j), ok) => bif ((isI .u64 a && isI .i64 b) && (isI .i64 k && isEvt e)) && nodupN [0, d, i, c, q, j] then some (ok ∧ HG ⟨iOf a, iOf b, iOf k⟩ D.p (evtOf e) ∧ D.sent.length ≤ 1000000 ∧ D.used ≤ 1000000000 ∧ hE ⟨iOf a, iOf b, iOf k⟩ D.p (evtOf e) = 0, .int .i64 0, [d, i, c, q, j], [(d, dnB (hS ⟨iOf a, iOf b, iOf k⟩ D (evtOf e)) i m q (m + 1)), (j, .gone), (m, cB (hR ⟨iOf a, iOf b, iOf k⟩ D.p (evtOf e)).s), (m + 1, evO_ (hS ⟨iOf a, iOf b, iOf k⟩ D (evtOf e)).sent)]) else none
    | none => none
  | _ => none
theorem rHaG_ok : CallOk Try.prog 55 rHaG := by
  refine ⟨named_spec (by kernel_rfl), fun args h m c v rd wr hs hm hc w0 M β h' w R hrd hwr hst => ?_⟩
  unfold rHaG at hs
  split at hs
  · rename_i d a b k e
    split at hs
    · rename_i D i c q j ok hdp
      obtain ⟨hb, hs⟩ := bif_some hs
      simp only [Option.some.injEq, Prod.mk.injEq] at hs
      obtain ⟨rfl, rfl, rfl, rfl⟩ := hs
      simp only [Bool.and_eq_true] at hb
      obtain ⟨⟨⟨b1, b2⟩, b3, b4⟩, hnd⟩ := hb
      obtain ⟨k0, k1, k2, k3, k4⟩ := hc
      obtain ⟨hd, f1, f2, f3, f4, g1, g2, g3, g4, e1, e2, e3, e4, hok⟩ := donP_val hdp
      obtain ⟨o1, o2, o3, o4⟩ := hok k0
      have ea : denL β [.ptr d [], .agg [a, b, k], e] = denL β [.ptr d [], .agg [.int .u64 (iOf a), .int .i64 (iOf b), .int .i64 (iOf k)], evtS (evtOf e)] := by
        simp only [denL, aggDen, intDen, isI_den b1, isI_den b2, isI_den b3]
        rw [den_evtOf b4, den_evtS]
      rw [ea]
      exact bun_ok (h := h) (m := m) [0, d, i, c, q, j] (han_ok ⟨iOf a, iOf b, iOf k⟩ D (evtOf e) k1 k2 k3 (hE_zero k4).1 (hE_zero k4).2.1 (hE_zero k4).2.2) R rfl (by simp) rfl rfl hnd
        ⟨Fit.gone (by rw [R.nil0]; rfl), (by
          show Less (h' d) ((dnB D 2 3 4 5).ren _)
          rw [hrd d (by simp), hd, dnB_ren (i := i) (c := c) (q := q) (j := j) rfl rfl rfl rfl]; exact .same _), bun_prD g1 o1 e1 (hrd i (by simp)), bun_i64D g2 o2 e2 (hrd c (by simp)), bun_i64D g3 o3 e3 (hrd q (by simp)), bun_evD g4 o4 e4 (hrd j (by simp)), trivial⟩ hm
        (fun p hp => by
          simp only [newB, List.drop, List.length_cons, List.length_nil, List.mem_cons, List.not_mem_nil, or_false] at hp
          rcases hp with rfl | rfl
          · exact hwr (m, cB (hR ⟨iOf a, iOf b, iOf k⟩ D.p (evtOf e)).s) (by simp)
          · exact hwr (m + 1, evO_ (hS ⟨iOf a, iOf b, iOf k⟩ D (evtOf e)).sent) (by simp)) (by simp) rfl
        ⟨trivial, dnB_st rfl rfl rfl rfl, (fun q => prS_stable q), (fun q => i64S_stable q), (fun q => i64S_stable q), evO_st, trivial⟩ ⟨rfl, by simp [Stable, StableL], evtS_stable _, trivial⟩
        ⟨trivial, dnB_st rfl rfl rfl rfl, (fun q => prS_stable q), (fun q => i64S_stable q), (fun q => i64S_stable q), trivial, cB_st, evO_st, trivial⟩ trivial rfl rfl (by
          show [(d, (dnB (hS ⟨iOf a, iOf b, iOf k⟩ D (evtOf e)) 2 6 4 7).ren _), (j, HB.gone.ren _), (m, (cB (hR ⟨iOf a, iOf b, iOf k⟩ D.p (evtOf e)).s).ren _), (m + 1, (evO_ (hS ⟨iOf a, iOf b, iOf k⟩ D (evtOf e)).sent).ren _)] = _
          rw [dnB_ren (i := i) (c := m) (q := q) (j := m + 1) rfl (by simp [rhoL]) rfl (by simp [rhoL]), evO_ren, cB_ren]; rfl)
    · cases hs
  · cases hs
end Go.Proofs.Ytjliakjbdcplcaa.Vm
end

section
namespace Go.Proofs.Ytjliakjbdcplcaa.Vm
open Go.RowKit
set_option linter.unusedVariables false
set_option linter.unusedSimpArgs false
set_option maxRecDepth 100000
theorem Rep.reval {w0 w : World} {M : Nat → Prop} {β : Env} {h : HM} (R : Rep w0 M β h w) {i : Nat} {t : TypeId} {v v' : SV} {ex : Bool} (hi : h i = .own t v ex) (hcl : v'.cl β = v.cl β) (hst : Stable h v') (hn : ∀ n k f, v' ≠ .arr n k f) (hv : ∀ n k f, v ≠ .arr n k f) :
    Rep w0 M β (upd h i (.own t v' ex)) w := by
  have mine : ∀ j, (upd h i (.own t v' ex) j).mine = true → (h j).mine = true := fun j hj => by
    by_cases e : j = i
    · subst e; rw [hi]; rfl
    · rwa [upd_ne e] at hj
  have born : ∀ j, (h j).born = true → (upd h i (.own t v' ex) j).born = true := fun j hj => by
    by_cases e : j = i
    · subst e; rw [upd_same]; rfl
    · rwa [upd_ne e]
  have i0 : (0 : Nat) ≠ i := fun e => by
    rw [← e, R.nil0] at hi; cases hi
  refine { os := R.os, tape := R.tape, output := R.output, size := R.size, frame := R.frame, nil := R.nil, nil0 := ?_, st := ?_, blk := ?_, own := fun j a hj ha => R.own j a (mine j hj) ha, ro := ?_, dist := fun a b x y hab ha hb hx hy => R.dist a b x y hab (mine a ha) (mine b hb) hx hy, lt := fun j a hj ha => R.lt j a (mine j hj) ha }
  · rw [upd_ne i0]; exact R.nil0
  · intro j
    by_cases e : j = i
    · subst e; rw [upd_same]; exact hst.more born
    · rw [upd_ne e]; exact HB.stable_more (R.st j) born
  · intro j
    by_cases e : j = i
    · subst e
      rw [upd_same]
      have := R.blk j
      rw [hi] at this
      rcases this with ⟨g, cs, h1, h2, ⟨tl, h3, h4⟩, h5⟩ | ⟨h1, h2, k, f, h3⟩
      · exact .inl ⟨g, cs, h1, h2, ⟨tl, by rw [hcl]; exact h3, h4⟩, fun n k f e => absurd e (hn n k f)⟩
      · exact absurd h3 (hv _ _ _)
    · rw [upd_ne e]; exact R.blk j
  · intro j u a hj
    by_cases e : j = i
    · subst e; rw [upd_same] at hj; cases hj
    · rw [upd_ne e] at hj; exact R.ro j u a hj
theorem At.nilIn {w0 : World} {M : Nat → Prop} {E : Env} {n0 N : Nat} {D : List Deferred} {φ : Fr} {L L2 : List HB} {K : Act → World → Prop} (ty k : Nat) (f : Nat → SV) (i t : Nat) (v v' : SV) (ex : Bool) (hf : ∀ (h : HM) (q : Nat), Stable h (f q))
    (hi : hp L i = .own t v ex) (hcl : ∀ β : Env, β 0 = (none, 0) → β L.length = (none, 0) → v'.cl β = v.cl β) (hst : ∀ h : HM, (∀ j, j ≤ L.length → (h j).born = true) → Stable h v') (hbn : bornTo L.length L = true) (hn : ∀ n k f, v' ≠ .arr n k f) (hv : ∀ n k f, v ≠ .arr n k f)
    (hL2 : L2 = setH (L ++ [.own ty (.arr 0 k f) false]) i (.own t v' ex)) (h : At w0 M E n0 N D φ L2 K) : At w0 M E n0 N D φ L K := fun a w hS => by
  obtain ⟨⟨β, hE, R, F⟩, hbn', hsz, hd⟩ := hS
  have hm : hp L L.length = .dead := hp_dead (Nat.le_refl _)
  have R1 := nothing R (e := ty) (k := k) (g := f) hm (fun q => hf _ q)
  have hag : ∀ i, (hp L i).born = true → β i = setE β L.length (none, 0) i := agree_setE hm
  have hborn : ∀ i, (hp L i).born = true → (upd (hp L) L.length (.own ty (.arr 0 k f) false) i).born = true := fun i hi => by
    unfold Vm.upd; split
    · rfl
    · exact hi
  have hlt : i < L.length := by
    rcases Nat.lt_or_ge i L.length with h | h
    · exact h
    · rw [hp_dead h] at hi; cases hi
  have hi1 : upd (hp L) L.length (.own ty (.arr 0 k f) false) i = .own t v ex := by rw [upd_ne (by omega)]; exact hi
  have ball : ∀ j, j ≤ L.length → (upd (hp L) L.length (.own ty (.arr 0 k f) false) j).born = true := fun j hj => by
    by_cases e : j = L.length
    · subst e; rw [upd_same]; rfl
    · rw [upd_ne e]
      simp only [bornTo, List.all_eq_true] at hbn
      exact hbn j (List.mem_range.2 (by omega))
  have R2 := R1.reval hi1 (hcl _ R1.nil (setE_same _ _ _)) (hst _ ball) hn hv
  have e2 : hp L2 = upd (upd (hp L) L.length (.own ty (.arr 0 k f) false)) i (.own t v' ex) := by
    rw [hL2, hp_setH, hp_append1]
  have hborn2 : ∀ j, (upd (hp L) L.length (.own ty (.arr 0 k f) false) j).born = true → (hp L2 j).born = true := fun j hj => by
    rw [e2]
    by_cases e : j = i
    · subst e; rw [upd_same]; rfl
    · rwa [upd_ne e]
  refine h a w ⟨⟨setE β L.length (none, 0), fun j hj => (hag j (hbn' j hj)).symm.trans (hE j hj), by rw [e2]; exact R2, fun u v hu => ?_⟩, fun j hj => hborn2 j (hborn j (hbn' j hj)), hsz, hd⟩
  obtain ⟨k1, k2⟩ := F u v hu
  exact ⟨(k1.more hborn).more hborn2, by rw [k2]; exact k1.den hag⟩
theorem WF.nilIn {P : Program} {w0 : World} {M : Nat → Prop} {E : Env} {n0 N n : Nat} {D : List Deferred} {φ : Fr} {L L2 : List HB} {c : Code} {ro : Option Nat} {Q : Exit → Act → World → Prop} (ty k : Nat) (f : Nat → SV) (i t : Nat) (v v' : SV) (ex : Bool) (hf : ∀ (h : HM) (q : Nat), Stable h (f q))
    (hi : hp L i = .own t v ex) (hcl : ∀ β : Env, β 0 = (none, 0) → β L.length = (none, 0) → v'.cl β = v.cl β) (hst : ∀ h : HM, (∀ j, j ≤ L.length → (h j).born = true) → Stable h v') (hbn : bornTo L.length L = true) (hn : ∀ n k f, v' ≠ .arr n k f) (hv : ∀ n k f, v ≠ .arr n k f)
    (hL2 : L2 = setH (L ++ [.own ty (.arr 0 k f) false]) i (.own t v' ex)) (h : WF ro n P c w0 M E n0 N D φ L2 Q) : WF ro n P c w0 M E n0 N D φ L Q := At.nilIn ty k f i t v v' ex hf hi hcl hst hbn hn hv hL2 h
end Go.Proofs.Ytjliakjbdcplcaa.Vm
end

section
namespace Go.Proofs.Ytjliakjbdcplcaa.Vm
open Go.RowKit
attribute [local push_cast] runR opG gtmp gval gus opX tmpsOf tm tmO tmP restr look look2 tab tys zs ets eqB eqBL allB numOf ieq Int.cast_ofNat_Int Int.ofNat_zero beq_true beq_false frameOf ev evL ofV opV loadV noW pushF wrsL setH allBorn allGone HB.born HB.isGone HB.val SV.plain dstOk hp nav fitsT SV.size sizeL SV.isAgg TK.size TK.agg bin binE binN binI arN arI cmpN cmpI keq kn narrow callV storeV setp fillV buildV buildSliceV makeV sliceV appendV appendFV slice3V copyV List.isEmpty_nil srcV evO asN ite_t ite_f ite_bool ite_int ite_nat maxV v_beq v_ble v_blt cond_true cond_false List.getElem?_cons_zero List.getElem?_cons_succ List.getD_cons_zero List.getD_cons_succ List.getD_nil List.length_cons List.length_nil List.take_succ_cons List.take_zero List.set_cons_zero List.set_cons_succ List.cons_append List.nil_append List.append_assoc List.replicate_succ List.replicate_zero Nat.zero_add Nat.add_zero decide_true decide_false Bool.true_and Bool.and_true Bool.false_and Bool.and_false Bool.true_or Bool.or_true Bool.false_or Bool.or_false beq_self_eq_true Bool.or_self Nat.lt_irrefl Nat.not_lt_zero Nat.le_refl Option.getD_some Option.getD_none BEq.rfl Bool.not_true Bool.not_false Bool.cond_true_left Bool.cond_false_right prS sndsS i64S nav_ins nav_ins0 nav_ins1 nav_ins2 nav_ins3 nav_ins4 nav_snd nav_snd0 nav_snd1 nav_snd2 isIns_insS insOf_insS isSnd_sndS sndOf_sndS isI_int isI_nat iOf JE prc_eta sPCheck sTakes sPCopy pcS prO i64O inO rHaB rHaG donP dnI isEvt_evtS evtOf_evtS ls_evtsS ls_evtsS' nodupN memN inR inN
set_option linter.unusedVariables false
set_option linter.unusedSimpArgs false
set_option maxRecDepth 100000
set_option maxHeartbeats 4000000
def dn0 : SV := .agg [.agg [.nat .i64 0, .sl 0 0 [] 0 0 0 (some 0), .sl 0 0 [] 0 0 0 (some 0), .nat .i64 0, .nat .i64 0, .sl 0 0 [] 0 0 0 (some 0)], .sl 0 0 [] 0 0 0 (some 0), .nat .i64 0]
def oneE (r : Rul) (p : Prc) (e : Evt) : Int := if procE r p ≠ 0 then procE r p else if takesB p e = false then 282 else hE r p e
theorem procE_zero {r : Rul} {p : Prc} (h : procE r p = 0) : r.rightB = true ∧ p.rightB = true := by
  unfold procE at h
  cases hr : r.rightB
  · rw [if_pos hr] at h; cases h
  · rw [if_neg (by rw [hr]; exact Bool.noConfusion)] at h
    cases hp : p.rightB
    · rw [if_pos hp] at h; cases h
    · exact ⟨rfl, rfl⟩
theorem takes_key {p : Prc} {e : Evt} (h : takesB p e = true) : 0 ≤ e.time ∧ e.time ≤ 281474976710656 := by
  unfold takesB at h
  rw [Bool.and_eq_true] at h
  have := of_decide_eq_true (show decide _ = true from h.1)
  exact ⟨this.1, this.2.1⟩
theorem HG.of {r : Rul} {p : Prc} {e : Evt} (h : procE r p = 0) (ht : takesB p e = true) (hok : ∀ x ∈ p.P, x.ok) : HG r p e := ⟨(procE_zero h).1, (procE_zero h).2, hok, (takes_key ht).1, (takes_key ht).2⟩
theorem rul_eta (r : Rul) : Rul.mk r.seed r.ahead r.fuel = r := rfl
theorem nil_cl {β : Env} {x : Nat} (h0 : β 0 = (none, 0)) (hx : β x = (none, 0)) (k : Nat) : (SV.sl x x [] k 0 0 none).den β = (SV.sl 0 0 [] 0 0 0 (some 0)).den β := by simp [SV.den, h0, hx]
def cO0 : FuncId → Option Spec := look2 [(35, sPCheck), (53, sTakes), (54, sPCopy)]
theorem cO0_ok : ∀ f S, cO0 f = some S → CallOk Try.prog f S := allOk_spec ⟨sPCheck_ok, sTakes_ok, sPCopy_ok, trivial⟩
def cOB : FuncId → Option Spec := look2 [(35, sPCheck), (53, sTakes), (54, sPCopy), (55, rHaB)]
theorem cOB_ok : ∀ f S, cOB f = some S → CallOk Try.prog f S := allOk_spec ⟨sPCheck_ok, sTakes_ok, sPCopy_ok, rHaB_ok, trivial⟩
def cOG : FuncId → Option Spec := look2 [(35, sPCheck), (53, sTakes), (54, sPCopy), (55, rHaG)]
theorem cOG_ok : ∀ f S, cOG f = some S → CallOk Try.prog f S := allOk_spec ⟨sPCheck_ok, sTakes_ok, sPCopy_ok, rHaG_ok, trivial⟩
theorem evm_ev (i : Evt) (a : Bool → SV → Option (Prop × SV)) (b : SV → Option (Prop × SV)) (c : Unit → Option (Prop × SV)) : ev.match_1 (fun _ => Option (Prop × SV)) (some (evtS i)) a b c = b (evtS i) := rfl
theorem evtS_sz (e : Evt) : (evtS e).size = 5 := rfl
theorem evtS_ag (e : Evt) : (evtS e).isAgg = true := rfl
theorem evtS_pl (e : Evt) : (evtS e).plain = true := rfl
theorem nav_evt (e : Evt) : nav (evtS e) [] = some (True, evtS e) := rfl
theorem one_chk (r : Rul) (p : Prc) (e : Evt) (p1 p2 p3 : Nat) (hok : ∀ x ∈ p.P, x.ok) (hn : p.P.length ≤ 1000000) (hc : p.cells.length ≤ 1000000) (hpo : p.ports.length ≤ 1000000) (hE0 : procE r p ≠ 0) : LitOk Try.prog 28 [.agg [.int .u64 r.seed, .int .i64 r.ahead, .int .i64 r.fuel], .agg [.int .i64 p.id, .sl 1 2 [] 5 0 p.P.length (some p1), .sl 3 4 [] 1 0 p.cells.length (some p2), .int .i64 p.draws, .int .i64 p.seq, .sl 5 6 [] 1 0 p.ports.length (some p3)], evtS e]
    [.gone, .gone, .ro (.arr p.P.length 5 (prS p.P)), .gone, .ro (.arr p.cells.length 1 (i64S p.cells)), .gone, .ro (.arr p.ports.length 1 (i64S p.ports))]
    (.tup [dn0, .int .i64 (procE r p)]) [.gone] := by

  refine litOkM (fn := Try.f28) 7 38 0 rfl rfl rfl rfl rfl (by simp only [StableL, Stable, hp, pcS, dnB, DnI.at_, dnS, dnR, i64S, prS, insS, sndsS, sndS, evtsS, evtS, prO, i64O, inO, evO_, cB, sB, HB.stable]; simp [HB.born, evtS]) rfl fun w0 M E hro => ?_
  repeat' (first | refine Ctl.h ?_ | ((with_reducible intro hif); first | (focus (cases hif; done)) | (simp only [JH] at hif; try (exfalso; omega)) | (try (exfalso; omega))) | ((first | ((with_reducible apply J22 cO0_ok tab_ok); (· rfl)) | ((with_reducible apply J23 fol cO0_ok tab_ok); (· rfl)) | with_reducible apply J24); (· (simp only [push_cast, ↓JP, Nat.reduceAdd, Nat.reduceEqDiff, Nat.reduceLT, Nat.reduceMul, Nat.reduceLeDiff, reduceCtorEq, reduceIte, ↓JK, cO0, evm_ev, ↓evtS_sz, ↓evtS_ag, ↓evtS_pl, nav_evt, hE0]; rfl)); (try kernel_rfl); (try exact Vm.b105)) | fail)
  apply At.endsRet tab_ok (fn := Try.f28) (rs := [.cell 6 87, .tmp 7]) Anc.refl hro (Nat.le_of_ble_eq_true rfl) rfl
  · exact Vm.b18
  · exact Vm.b7
  · exact Vm.b8
  · rfl
  · exact Vm.b102
  · exact Vm.b10
  · exact fun β => rfl
  · exact Vm.b102
theorem one_tak (r : Rul) (p : Prc) (e : Evt) (p1 p2 p3 : Nat) (hok : ∀ x ∈ p.P, x.ok) (hn : p.P.length ≤ 1000000) (hc : p.cells.length ≤ 1000000) (hpo : p.ports.length ≤ 1000000) (hE0 : procE r p = 0) (ht : takesB p e = false) : LitOk Try.prog 28 [.agg [.int .u64 r.seed, .int .i64 r.ahead, .int .i64 r.fuel], .agg [.int .i64 p.id, .sl 1 2 [] 5 0 p.P.length (some p1), .sl 3 4 [] 1 0 p.cells.length (some p2), .int .i64 p.draws, .int .i64 p.seq, .sl 5 6 [] 1 0 p.ports.length (some p3)], evtS e]
    [.gone, .gone, .ro (.arr p.P.length 5 (prS p.P)), .gone, .ro (.arr p.cells.length 1 (i64S p.cells)), .gone, .ro (.arr p.ports.length 1 (i64S p.ports))]
    (.tup [dn0, .int .i64 282]) [.gone] := by

  refine litOkM (fn := Try.f28) 7 38 0 rfl rfl rfl rfl rfl (by simp only [StableL, Stable, hp, pcS, dnB, DnI.at_, dnS, dnR, i64S, prS, insS, sndsS, sndS, evtsS, evtS, prO, i64O, inO, evO_, cB, sB, HB.stable]; simp [HB.born, evtS]) rfl fun w0 M E hro => ?_
  repeat' (first | refine Ctl.h ?_ | ((with_reducible intro hif); first | (focus (cases hif; done)) | (simp only [JH] at hif; try (exfalso; omega)) | (try (exfalso; omega))) | ((first | ((with_reducible apply J22 cO0_ok tab_ok); (· rfl)) | ((with_reducible apply J23 fol cO0_ok tab_ok); (· rfl)) | with_reducible apply J24); (· (simp only [push_cast, ↓JP, Nat.reduceAdd, Nat.reduceEqDiff, Nat.reduceLT, Nat.reduceMul, Nat.reduceLeDiff, reduceCtorEq, reduceIte, ↓JK, cO0, evm_ev, ↓evtS_sz, ↓evtS_ag, ↓evtS_pl, nav_evt, hE0, ht]; rfl)); (try kernel_rfl); (try exact Vm.b105)) | fail)
  apply At.endsRet tab_ok (fn := Try.f28) (rs := [.cell 6 87, .tmp 7]) Anc.refl hro (Nat.le_of_ble_eq_true rfl) rfl
  · exact Vm.b18
  · exact Vm.b7
  · exact Vm.b8
  · rfl
  · exact Vm.b102
  · exact Vm.b10
  · exact fun β => rfl
  · exact Vm.b102
theorem one_bad (r : Rul) (p : Prc) (e : Evt) (p1 p2 p3 : Nat) (hok : ∀ x ∈ p.P, x.ok) (hn : p.P.length ≤ 1000000) (hc : p.cells.length ≤ 1000000) (hpo : p.ports.length ≤ 1000000) (hE0 : procE r p = 0) (ht : takesB p e = true) (hb : hE r p e ≠ 0) : LitOk Try.prog 28 [.agg [.int .u64 r.seed, .int .i64 r.ahead, .int .i64 r.fuel], .agg [.int .i64 p.id, .sl 1 2 [] 5 0 p.P.length (some p1), .sl 3 4 [] 1 0 p.cells.length (some p2), .int .i64 p.draws, .int .i64 p.seq, .sl 5 6 [] 1 0 p.ports.length (some p3)], evtS e]
    [.gone, .gone, .ro (.arr p.P.length 5 (prS p.P)), .gone, .ro (.arr p.cells.length 1 (i64S p.cells)), .gone, .ro (.arr p.ports.length 1 (i64S p.ports))]
    (.tup [dn0, .int .i64 (hE r p e)]) [.gone] := by
  have hG := HG.of hE0 ht hok
  have h5 : (0 : Nat) ≤ 1000000 := by decide
  have h6 : (0 : Nat) ≤ 1000000000 := by decide

  refine litOkM (fn := Try.f28) 7 38 0 rfl rfl rfl rfl rfl (by simp only [StableL, Stable, hp, pcS, dnB, DnI.at_, dnS, dnR, i64S, prS, insS, sndsS, sndS, evtsS, evtS, prO, i64O, inO, evO_, cB, sB, HB.stable]; simp [HB.born, evtS]) rfl fun w0 M E hro => ?_
  repeat' (first | refine Ctl.h ?_ | ((with_reducible intro hif); first | (focus (cases hif; done)) | (simp only [JH] at hif; try (exfalso; omega)) | (try (exfalso; omega))) | ((first | ((with_reducible apply J22 cO0_ok tab_ok); (· rfl)) | ((with_reducible apply J23 fol cO0_ok tab_ok); (· rfl)) | with_reducible apply J24); (· exact Vm.b106); (try kernel_rfl); (try exact Vm.b105)) | fail)
  refine WF.nilIn 39 5 (evtsS []) 14 87 (.agg [.agg [.int .i64 p.id, .sl 11 11 [] 5 0 p.P.length none, .sl 12 12 [] 1 0 p.cells.length none, .int .i64 p.draws, .int .i64 p.seq, .sl 13 13 [] 1 0 p.ports.length none], .sl 0 0 [] 0 0 0 (some 0), .nat .i64 0]) (dnR p.id p.draws p.seq p.P.length p.cells.length p.ports.length 0 0 11 12 13 15) true (fun _ q => evtsS_stable q) rfl (fun β b0 hβ => by
      have e := nil_cl (k := 5) b0 (show β 15 = (none, 0) from hβ)
      simp only [dnR, SV.cl, SV.den, denL] at e ⊢
      rw [e]) (fun h hb => by
      have k11 := hb 11 (show (11 : Nat) ≤ 15 by decide)
      have k12 := hb 12 (show (12 : Nat) ≤ 15 by decide)
      have k13 := hb 13 (show (13 : Nat) ≤ 15 by decide)
      have k15 := hb 15 (show (15 : Nat) ≤ 15 by decide)
      simp [dnR, Stable, StableL, k11, k12, k13, k15]) rfl (fun n k f e => by cases e) (fun n k f e => by cases e) rfl ?_
  simp only [setH, List.cons_append, List.nil_append]

  repeat' (first | refine Ctl.h ?_ | ((with_reducible intro hif); first | (focus (cases hif; done)) | (simp only [JH] at hif; try (exfalso; omega)) | (try (exfalso; omega))) | ((first | ((with_reducible apply J22 cOB_ok tab_ok); (· rfl)) | ((with_reducible apply J23 fol cOB_ok tab_ok); (· rfl)) | with_reducible apply J24); (· (simp only [push_cast, ↓JP, Nat.reduceAdd, Nat.reduceEqDiff, Nat.reduceLT, Nat.reduceMul, Nat.reduceLeDiff, reduceCtorEq, reduceIte, ↓JK, cOB, evm_ev, ↓evtS_sz, ↓evtS_ag, ↓evtS_pl, nav_evt, rul_eta, ls_zero, JB, dnS, dnR, dnB, evO_, dn0, hb]; rfl)); (try kernel_rfl); (try exact Vm.b105)) | fail)
  apply At.endsRet tab_ok (fn := Try.f28) (rs := [.cell 6 87, .tmp 7]) Anc.refl hro (Nat.le_of_ble_eq_true rfl) rfl
  · exact Vm.b18
  · exact Vm.b7
  · exact Vm.b8
  · rfl
  · exact Vm.b102
  · exact Vm.b10
  · exact fun β => rfl
  · exact Vm.b102
theorem one_ok (r : Rul) (p : Prc) (e : Evt) (p1 p2 p3 : Nat) (hok : ∀ x ∈ p.P, x.ok) (hn : p.P.length ≤ 1000000) (hc : p.cells.length ≤ 1000000) (hpo : p.ports.length ≤ 1000000) (hE0 : procE r p = 0) (ht : takesB p e = true) (hb : hE r p e = 0) : LitOk Try.prog 28 [.agg [.int .u64 r.seed, .int .i64 r.ahead, .int .i64 r.fuel], .agg [.int .i64 p.id, .sl 1 2 [] 5 0 p.P.length (some p1), .sl 3 4 [] 1 0 p.cells.length (some p2), .int .i64 p.draws, .int .i64 p.seq, .sl 5 6 [] 1 0 p.ports.length (some p3)], evtS e]
    [.gone, .gone, .ro (.arr p.P.length 5 (prS p.P)), .gone, .ro (.arr p.cells.length 1 (i64S p.cells)), .gone, .ro (.arr p.ports.length 1 (i64S p.ports))]
    (.tup [dnS (hS r ⟨p, [], 0⟩ e) 7 8 9 10, .int .i64 0]) [.gone, .gone, .gone, .gone, .gone, .gone, .gone, prO p.P, cB (hR r p e).s, inO p.ports, evO_ (hS r ⟨p, [], 0⟩ e).sent] := by
  have hG := HG.of hE0 ht hok
  have h5 : (0 : Nat) ≤ 1000000 := by decide
  have h6 : (0 : Nat) ≤ 1000000000 := by decide

  refine litOkM (fn := Try.f28) 7 38 0 rfl rfl rfl rfl rfl (by simp only [StableL, Stable, hp, pcS, dnB, DnI.at_, dnS, dnR, i64S, prS, insS, sndsS, sndS, evtsS, evtS, prO, i64O, inO, evO_, cB, sB, HB.stable]; simp [HB.born, evtS]) rfl fun w0 M E hro => ?_
  repeat' (first | refine Ctl.h ?_ | ((with_reducible intro hif); first | (focus (cases hif; done)) | (simp only [JH] at hif; try (exfalso; omega)) | (try (exfalso; omega))) | ((first | ((with_reducible apply J22 cO0_ok tab_ok); (· rfl)) | ((with_reducible apply J23 fol cO0_ok tab_ok); (· rfl)) | with_reducible apply J24); (· exact Vm.b106); (try kernel_rfl); (try exact Vm.b105)) | fail)
  refine WF.nilIn 39 5 (evtsS []) 14 87 (.agg [.agg [.int .i64 p.id, .sl 11 11 [] 5 0 p.P.length none, .sl 12 12 [] 1 0 p.cells.length none, .int .i64 p.draws, .int .i64 p.seq, .sl 13 13 [] 1 0 p.ports.length none], .sl 0 0 [] 0 0 0 (some 0), .nat .i64 0]) (dnR p.id p.draws p.seq p.P.length p.cells.length p.ports.length 0 0 11 12 13 15) true (fun _ q => evtsS_stable q) rfl (fun β b0 hβ => by
      have e := nil_cl (k := 5) b0 (show β 15 = (none, 0) from hβ)
      simp only [dnR, SV.cl, SV.den, denL] at e ⊢
      rw [e]) (fun h hb => by
      have k11 := hb 11 (show (11 : Nat) ≤ 15 by decide)
      have k12 := hb 12 (show (12 : Nat) ≤ 15 by decide)
      have k13 := hb 13 (show (13 : Nat) ≤ 15 by decide)
      have k15 := hb 15 (show (15 : Nat) ≤ 15 by decide)
      simp [dnR, Stable, StableL, k11, k12, k13, k15]) rfl (fun n k f e => by cases e) (fun n k f e => by cases e) rfl ?_
  simp only [setH, List.cons_append, List.nil_append]

  repeat' (first | refine Ctl.h ?_ | ((with_reducible intro hif); first | (focus (cases hif; done)) | (simp only [JH] at hif; try (exfalso; omega)) | (try (exfalso; omega))) | ((first | ((with_reducible apply J22 cOG_ok tab_ok); (· rfl)) | ((with_reducible apply J23 fol cOG_ok tab_ok); (· rfl)) | with_reducible apply J24); (· (simp only [push_cast, ↓JP, Nat.reduceAdd, Nat.reduceEqDiff, Nat.reduceLT, Nat.reduceMul, Nat.reduceLeDiff, reduceCtorEq, reduceIte, ↓JK, cOG, evm_ev, ↓evtS_sz, ↓evtS_ag, ↓evtS_pl, nav_evt, rul_eta, ls_zero, JB, dnS, dnR, dnB, evO_, dn0, hb]; rfl)); (try kernel_rfl); (try exact Vm.b105)) | fail)
  apply At.endsPick [0, 1, 2, 3, 4, 5, 6, 11, 16, 13, 17] tab_ok (fn := Try.f28) (rs := [.cell 6 87, .tmp 7]) Anc.refl hro (Nat.le_of_ble_eq_true rfl) rfl
  · exact Vm.b18
  · exact Vm.b24
  · rfl
  · rfl
  · rfl
  · exact Vm.b37
  · rfl
  · exact Vm.b102
  · exact Vm.b10
  · exact fun β => rfl
  · exact Vm.b102
theorem one_err (r : Rul) (p : Prc) (e : Evt) (p1 p2 p3 : Nat) (hok : ∀ x ∈ p.P, x.ok) (hn : p.P.length ≤ 1000000) (hc : p.cells.length ≤ 1000000) (hpo : p.ports.length ≤ 1000000) (h : oneE r p e ≠ 0) : LitOk Try.prog 28 [.agg [.int .u64 r.seed, .int .i64 r.ahead, .int .i64 r.fuel], .agg [.int .i64 p.id, .sl 1 2 [] 5 0 p.P.length (some p1), .sl 3 4 [] 1 0 p.cells.length (some p2), .int .i64 p.draws, .int .i64 p.seq, .sl 5 6 [] 1 0 p.ports.length (some p3)], evtS e]
    [.gone, .gone, .ro (.arr p.P.length 5 (prS p.P)), .gone, .ro (.arr p.cells.length 1 (i64S p.cells)), .gone, .ro (.arr p.ports.length 1 (i64S p.ports))] (.tup [dn0, .int .i64 (oneE r p e)]) [.gone] := by
  unfold oneE at h ⊢
  by_cases h1 : procE r p = 0
  · rw [if_neg (fun h => h h1)] at h ⊢
    cases h2 : takesB p e
    · rw [if_pos rfl]; exact one_tak r p e p1 p2 p3 hok hn hc hpo h1 h2
    · rw [h2] at h
      rw [if_neg Bool.noConfusion] at h ⊢
      exact one_bad r p e p1 p2 p3 hok hn hc hpo h1 h2 h
  · rw [if_pos h1]; exact one_chk r p e p1 p2 p3 hok hn hc hpo h1
theorem oneE_zero {r : Rul} {p : Prc} {e : Evt} (h : oneE r p e = 0) : procE r p = 0 ∧ takesB p e = true ∧ hE r p e = 0 := by
  unfold oneE at h
  by_cases h1 : procE r p = 0
  · rw [if_neg (fun h => h h1)] at h
    cases h2 : takesB p e
    · rw [if_pos h2] at h; cases h
    · rw [if_neg (by rw [h2]; exact Bool.noConfusion)] at h
      exact ⟨h1, rfl, h⟩
  · rw [if_pos h1] at h; exact absurd h h1
def sOneB : Spec := fun args h m => match args with
  | [.agg [v1, v2, v3], .agg [v4, v5, v6, v7, v8, v9], v10] => match srcV h 5 (.tup []) v5, srcV h 1 (.tup []) v6, srcV h 1 (.tup []) v9 with
    | some (c5, n5, f5, r5), some (c6, n6, f6, r6), some (c9, n9, f9, r9) => bif isI .u64 v1 && isI .i64 v2 && isI .i64 v3 && isI .i64 v4 && isI .i64 v7 && isI .i64 v8 && isEvt v10 then some (c5 ∧ c6 ∧ c9 ∧ (∀ q, q < n5 → isIns (f5 q) = true) ∧ (∀ q, q < n6 → isI .i64 (f6 q) = true) ∧ (∀ q, q < n9 → isI .i64 (f9 q) = true) ∧ ((∀ x ∈ (ls insOf n5 f5), x.ok)) ∧ (n5 ≤ 1000000) ∧ (n6 ≤ 1000000) ∧ (n9 ≤ 1000000) ∧ (oneE ⟨(iOf v1), (iOf v2), (iOf v3)⟩ ⟨(iOf v4), (ls insOf n5 f5), (ls iOf n6 f6), (iOf v7), (iOf v8), (ls iOf n9 f9)⟩ (evtOf v10) ≠ 0), .tup [dn0, .int .i64 (oneE ⟨(iOf v1), (iOf v2), (iOf v3)⟩ ⟨(iOf v4), (ls insOf n5 f5), (ls iOf n6 f6), (iOf v7), (iOf v8), (ls iOf n9 f9)⟩ (evtOf v10))], r5 ++ r6 ++ r9, []) else none
    | _, _, _ => none
  | _ => none
theorem sOneB_ok : CallOk Try.prog 28 sOneB := by
  refine ⟨named_spec (by kernel_rfl), fun args h m c v rd wr hs hm hc w0 M β h' w R hrd hwr hst => ?_⟩
  unfold sOneB at hs
  split at hs
  · rename_i v1 v2 v3 v4 v5 v6 v7 v8 v9 v10
    split at hs
    · rename_i c5 n5 f5 r5 c6 n6 f6 r6 c9 n9 f9 r9 a5 a6 a9
      obtain ⟨hb, hs⟩ := bif_some hs
      simp only [Option.some.injEq, Prod.mk.injEq] at hs
      obtain ⟨rfl, rfl, rfl, rfl⟩ := hs
      simp only [Bool.and_eq_true] at hb
      obtain ⟨⟨⟨⟨⟨⟨b1, b2⟩, b3⟩, b4⟩, b7⟩, b8⟩, b10⟩ := hb
      obtain ⟨k5, k6, k9, g5, g6, g9, y1, y2, y3, y4, y5⟩ := hc
      obtain ⟨A5, p5, d5, e5, t5⟩ := reads_src R a5 k5 (fun i hi => hrd i (List.mem_append_left _ (List.mem_append_left _ hi))) (by omega)
      obtain ⟨A6, p6, d6, e6, t6⟩ := reads_src R a6 k6 (fun i hi => hrd i (List.mem_append_left _ (List.mem_append_right _ hi))) (by omega)
      obtain ⟨A9, p9, d9, e9, t9⟩ := reads_src R a9 k9 (fun i hi => hrd i (List.mem_append_right _ hi)) (by omega)
      refine callRo (views := [⟨5, (ls insOf n5 f5).length, prS (ls insOf n5 f5), A5, p5⟩, ⟨1, (ls iOf n6 f6).length, i64S (ls iOf n6 f6), A6, p6⟩, ⟨1, (ls iOf n9 f9).length, i64S (ls iOf n9 f9), A9, p9⟩]) (one_err ⟨(iOf v1), (iOf v2), (iOf v3)⟩ ⟨(iOf v4), (ls insOf n5 f5), (ls iOf n6 f6), (iOf v7), (iOf v8), (ls iOf n9 f9)⟩ (evtOf v10) p5 p6 p9 y1 (by rw [ls_length]; exact y2) (by rw [ls_length]; exact y3) (by rw [ls_length]; exact y4) y5) ?_ R hm hwr ?_ ?_ ?_
      · intro x hx
        simp only [List.mem_cons, List.not_mem_nil, or_false] at hx
        rcases hx with rfl | rfl | rfl
        · exact viewIns t5 e5 g5
        · exact viewI64 t6 e6 g6
        · exact viewI64 t9 e9 g9
      · intro β1 hv
        simp only [Vd, ls_length, and_true] at hv
        obtain ⟨z5, z6, z9⟩ := hv
        simp only [denL, aggDen, intDen, natDen, boolDen, ls_length, z5, z6, z9, d5, d6, d9, isI_den b1, isI_den b2, isI_den b3, isI_den b4, isI_den b7, isI_den b8, den_evtOf b10, den_evtS]
      · exact Vm.b102
      · exact Vm.b102
    · cases hs
  · cases hs
def sOneG : Spec := fun args h m => match args with
  | [.agg [v1, v2, v3], .agg [v4, v5, v6, v7, v8, v9], v10] => match srcV h 5 (.tup []) v5, srcV h 1 (.tup []) v6, srcV h 1 (.tup []) v9 with
    | some (c5, n5, f5, r5), some (c6, n6, f6, r6), some (c9, n9, f9, r9) => bif isI .u64 v1 && isI .i64 v2 && isI .i64 v3 && isI .i64 v4 && isI .i64 v7 && isI .i64 v8 && isEvt v10 then some (c5 ∧ c6 ∧ c9 ∧ (∀ q, q < n5 → isIns (f5 q) = true) ∧ (∀ q, q < n6 → isI .i64 (f6 q) = true) ∧ (∀ q, q < n9 → isI .i64 (f9 q) = true) ∧ ((∀ x ∈ (ls insOf n5 f5), x.ok)) ∧ (n5 ≤ 1000000) ∧ (n6 ≤ 1000000) ∧ (n9 ≤ 1000000) ∧ (oneE ⟨(iOf v1), (iOf v2), (iOf v3)⟩ ⟨(iOf v4), (ls insOf n5 f5), (ls iOf n6 f6), (iOf v7), (iOf v8), (ls iOf n9 f9)⟩ (evtOf v10) = 0), .tup [dnS (hS ⟨(iOf v1), (iOf v2), (iOf v3)⟩ ⟨⟨(iOf v4), (ls insOf n5 f5), (ls iOf n6 f6), (iOf v7), (iOf v8), (ls iOf n9 f9)⟩, [], 0⟩ (evtOf v10)) m (m + 1) (m + 2) (m + 3), .int .i64 0], r5 ++ r6 ++ r9, [(m, prO (ls insOf n5 f5)), (m + 1, cB (hR ⟨(iOf v1), (iOf v2), (iOf v3)⟩ ⟨(iOf v4), (ls insOf n5 f5), (ls iOf n6 f6), (iOf v7), (iOf v8), (ls iOf n9 f9)⟩ (evtOf v10)).s), (m + 2, inO (ls iOf n9 f9)), (m + 3, evO_ (hS ⟨(iOf v1), (iOf v2), (iOf v3)⟩ ⟨⟨(iOf v4), (ls insOf n5 f5), (ls iOf n6 f6), (iOf v7), (iOf v8), (ls iOf n9 f9)⟩, [], 0⟩ (evtOf v10)).sent)]) else none
    | _, _, _ => none
  | _ => none
theorem sOneG_ok : CallOk Try.prog 28 sOneG := by
  refine ⟨named_spec (by kernel_rfl), fun args h m c v rd wr hs hm hc w0 M β h' w R hrd hwr hst => ?_⟩
  unfold sOneG at hs
  split at hs
  · rename_i v1 v2 v3 v4 v5 v6 v7 v8 v9 v10
    split at hs
    · rename_i c5 n5 f5 r5 c6 n6 f6 r6 c9 n9 f9 r9 a5 a6 a9
      obtain ⟨hb, hs⟩ := bif_some hs
      simp only [Option.some.injEq, Prod.mk.injEq] at hs
      obtain ⟨rfl, rfl, rfl, rfl⟩ := hs
      simp only [Bool.and_eq_true] at hb
      obtain ⟨⟨⟨⟨⟨⟨b1, b2⟩, b3⟩, b4⟩, b7⟩, b8⟩, b10⟩ := hb
      obtain ⟨k5, k6, k9, g5, g6, g9, y1, y2, y3, y4, y5⟩ := hc
      obtain ⟨A5, p5, d5, e5, t5⟩ := reads_src R a5 k5 (fun i hi => hrd i (List.mem_append_left _ (List.mem_append_left _ hi))) (by omega)
      obtain ⟨A6, p6, d6, e6, t6⟩ := reads_src R a6 k6 (fun i hi => hrd i (List.mem_append_left _ (List.mem_append_right _ hi))) (by omega)
      obtain ⟨A9, p9, d9, e9, t9⟩ := reads_src R a9 k9 (fun i hi => hrd i (List.mem_append_right _ hi)) (by omega)
      refine callRo (views := [⟨5, (ls insOf n5 f5).length, prS (ls insOf n5 f5), A5, p5⟩, ⟨1, (ls iOf n6 f6).length, i64S (ls iOf n6 f6), A6, p6⟩, ⟨1, (ls iOf n9 f9).length, i64S (ls iOf n9 f9), A9, p9⟩]) (one_ok ⟨(iOf v1), (iOf v2), (iOf v3)⟩ ⟨(iOf v4), (ls insOf n5 f5), (ls iOf n6 f6), (iOf v7), (iOf v8), (ls iOf n9 f9)⟩ (evtOf v10) p5 p6 p9 y1 (by rw [ls_length]; exact y2) (by rw [ls_length]; exact y3) (by rw [ls_length]; exact y4) (oneE_zero y5).1 (oneE_zero y5).2.1 (oneE_zero y5).2.2) ?_ R hm hwr ?_ ?_ ?_
      · intro x hx
        simp only [List.mem_cons, List.not_mem_nil, or_false] at hx
        rcases hx with rfl | rfl | rfl
        · exact viewIns t5 e5 g5
        · exact viewI64 t6 e6 g6
        · exact viewI64 t9 e9 g9
      · intro β1 hv
        simp only [Vd, ls_length, and_true] at hv
        obtain ⟨z5, z6, z9⟩ := hv
        simp only [denL, aggDen, intDen, natDen, boolDen, ls_length, z5, z6, z9, d5, d6, d9, isI_den b1, isI_den b2, isI_den b3, isI_den b4, isI_den b7, isI_den b8, den_evtOf b10, den_evtS]
      · exact Vm.b102
      · exact Vm.b102
    · cases hs
  · cases hs
end Go.Proofs.Ytjliakjbdcplcaa.Vm
end

section
namespace Go.Proofs.Ytjliakjbdcplcaa.Vm
open Go.RowKit
set_option linter.unusedVariables false
set_option linter.unusedSimpArgs false
def kcE (a b : Evt) : Int × Int := kcmp a.time a.source a.seq b.time b.source b.seq
def badAt (p : Prc) (l : List Evt) (i : Nat) : Int := if takesB p (l.getD i ⟨0, 0, 0, 0, 0⟩) = false then 282 else if 0 < i ∧ 0 ≤ (kcE (l.getD (i - 1) ⟨0, 0, 0, 0, 0⟩) (l.getD i ⟨0, 0, 0, 0, 0⟩)).1 then 283 else 0
def foldD (r : Rul) (D : Dn) (l : List Evt) : Dn := l.foldl (hS r) D
theorem foldD_snoc (r : Rul) (D : Dn) (l : List Evt) (e : Evt) : foldD r D (l ++ [e]) = hS r (foldD r D l) e := by simp [foldD]
theorem foldD_nil (r : Rul) (D : Dn) : foldD r D [] = D := rfl
def AllK (r : Rul) (D : Dn) (l : List Evt) (k : Nat) : Prop := ∀ i, i < k → hE r (foldD r D (l.take i)).p (l.getD i ⟨0, 0, 0, 0, 0⟩) = 0
theorem take_snoc {α : Type} {l : List α} {k : Nat} (d : α) (hk : k < l.length) : l.take (k + 1) = l.take k ++ [l.getD k d] := by
  rw [List.getD_eq_getElem?_getD, List.getElem?_eq_getElem hk, List.take_add_one, List.getElem?_eq_getElem hk]; rfl
theorem HG.next {r : Rul} {D : Dn} {e : Evt} (h : HG r D.p e) (h0 : hE r D.p e = 0) : (hS r D e).p.rightB = true ∧ (hS r D e).p.P = D.p.P ∧ (hS r D e).p.id = D.p.id ∧ (hS r D e).p.ports = D.p.ports ∧ (hS r D e).p.cells.length = D.p.cells.length ∧ D.p.draws ≤ (hS r D e).p.draws ∧ (hS r D e).p.seq = D.p.seq + (hR r D.p e).s.sends.length ∧ (hS r D e).sent.length = D.sent.length + (hR r D.p e).s.sends.length ∧ (hR r D.p e).s.sends.length ≤ (hR r D.p e).tr.length ∧ (hS r D e).used = D.used + (hR r D.p e).tr.length := by
  obtain ⟨hb, hg, hq⟩ := hE_zero h0
  obtain ⟨hI, hG⟩ := h.si hb
  obtain ⟨h1, h2, h4, h5, h6, h7, h8, h9, h10⟩ := rightB_iff.1 h.hp
  have hl := hI.l
  have hd := hI.d
  have hn := hI.n
  have hc : cnt D.p.P 8 (hR r D.p e).tr ≤ (hR r D.p e).tr.length := List.length_filter_le _ _
  refine ⟨rightB_iff.2 ⟨h1, h2, ?_, ?_, ?_, ?_, ?_, h9, h10⟩, rfl, rfl, rfl, hl, ?_, rfl, ?_, by omega, rfl⟩
  · show (hR r D.p e).s.cells.length ≤ 1024; omega
  · exact hG.d0
  · exact hG.d1
  · show 0 ≤ D.p.seq + ((hR r D.p e).s.sends.length : Int); omega
  · show D.p.seq + ((hR r D.p e).s.sends.length : Int) ≤ 4294967296; omega
  · show D.p.draws ≤ (hR r D.p e).s.draws; omega
  · show (D.sent ++ _).length = _; rw [List.length_append, sentL_len]
structure FI (r : Rul) (p : Prc) (l : List Evt) (k : Nat) (D : Dn) : Prop where
  hp : D.p.rightB = true
  P : D.p.P = p.P
  id : D.p.id = p.id
  po : D.p.ports = p.ports
  cl : D.p.cells.length = p.cells.length
  dr : p.draws ≤ D.p.draws
  sq : D.p.seq = p.seq + (D.sent.length : Int)
  su : D.sent.length ≤ D.used
  us : (D.used : Int) ≤ r.fuel * k
theorem takes_eq {p q : Prc} (h : q.id = p.id) (e : Evt) : takesB q e = takesB p e := by unfold takesB; rw [h]
theorem fi_zero {r : Rul} {p : Prc} {l : List Evt} (hp : p.rightB = true) : FI r p l 0 ⟨p, [], 0⟩ := ⟨hp, rfl, rfl, rfl, rfl, Int.le_refl _, by simp, Nat.le_refl _, by simp⟩
theorem FI.hg {r : Rul} {p : Prc} {l : List Evt} {k : Nat} {D : Dn} (h : FI r p l k D) (hr : r.rightB = true) (hok : ∀ x ∈ p.P, x.ok) {e : Evt} (ht : takesB p e = true) : HG r D.p e :=
  ⟨hr, h.hp, by rw [h.P]; exact hok, (takes_key ht).1, (takes_key ht).2⟩
theorem FI.step {r : Rul} {p : Prc} {l : List Evt} {k : Nat} {D : Dn} (h : FI r p l k D) (hr : r.rightB = true) (hok : ∀ x ∈ p.P, x.ok) {e : Evt} (ht : takesB p e = true) (h0 : hE r D.p e = 0) : FI r p l (k + 1) (hS r D e) := by
  have G := h.hg hr hok ht
  obtain ⟨n1, n2, n3, n4, n5, n6, n7, n8, n9, n10⟩ := G.next h0
  have hl := G.len
  refine ⟨n1, n2.trans h.P, n3.trans h.id, n4.trans h.po, n5.trans h.cl, Int.le_trans h.dr n6, by rw [n7, n8, h.sq]; omega, by rw [n8, n10]; have := h.su; omega, ?_⟩
  have := h.us
  rw [n10]
  have e1 : r.fuel * ((k + 1 : Nat) : Int) = r.fuel * (k : Int) + r.fuel := by
    rw [show ((k + 1 : Nat) : Int) = (k : Int) + 1 by omega, Int.mul_add, Int.mul_one]
  rw [e1]
  omega
theorem badAt_takes {p : Prc} {l : List Evt} {i : Nat} (h : badAt p l i = 0) : takesB p (l.getD i ⟨0, 0, 0, 0, 0⟩) = true := by
  unfold badAt at h
  cases ht : takesB p (l.getD i ⟨0, 0, 0, 0, 0⟩)
  · rw [if_pos ht] at h; cases h
  · rfl
theorem fi_all {r : Rul} {p : Prc} {l : List Evt} (hE0 : procE r p = 0) (hok : ∀ x ∈ p.P, x.ok) (hB : ∀ q, q < l.length → badAt p l q = 0) : ∀ k, k ≤ l.length → AllK r ⟨p, [], 0⟩ l k → FI r p l k (foldD r ⟨p, [], 0⟩ (l.take k))
  | 0, _, _ => by rw [List.take_zero, foldD_nil]; exact fi_zero (procE_zero hE0).2
  | k + 1, hk, hA => by
    have ih := fi_all hE0 hok hB k (by omega) (fun i hi => hA i (by omega))
    rw [take_snoc ⟨0, 0, 0, 0, 0⟩ (by omega), foldD_snoc]
    exact ih.step (procE_zero hE0).1 hok (badAt_takes (hB k (by omega))) (hA k (by omega))
end Go.Proofs.Ytjliakjbdcplcaa.Vm
end

section
namespace Go.Proofs.Ytjliakjbdcplcaa.Vm
open Go.RowKit
set_option linter.unusedVariables false
set_option linter.unusedSimpArgs false
structure ESm where
  more : Int
  source : Int
  value : Int
deriving DecidableEq
def ESm.cells (e : ESm) : List Value := [.int .u8 e.more, .int .u8 e.source, .int .i64 e.value]
def esV (l : List ESm) : List Value := l.flatMap ESm.cells
def esA (e : ESm) : SV := .agg [.int .u8 e.more, .int .u8 e.source, .int .i64 e.value]
def esS (l : List ESm) : Nat → SV := fun q => esA (l.getD q ⟨0, 0, 0⟩)
theorem esS_stable {h : HM} {l : List ESm} (q : Nat) : Stable h (esS l q) := by simp [esS, esA, Stable, StableL]
theorem elems_esS {β : Env} (l : List ESm) : elems β 3 l.length (esS l) = esV l := by
  have hc : ∀ x : ESm, (esA x).cl β = x.cells := fun x => by
    rw [show esA x = .agg [.int .u8 x.more, .int .u8 x.source, .int .i64 x.value] from rfl, cl_agg]; rfl
  unfold elems esV
  have e : (List.range l.length).flatMap (fun q => fit 3 ((esS l q).cl β)) = ((List.range l.length).map fun q => l.getD q ⟨0, 0, 0⟩).flatMap ESm.cells := by
    rw [List.flatMap_map]
    exact congrArg (fun f => (List.range l.length).flatMap f) (funext fun q => by rw [show esS l q = esA (l.getD q ⟨0, 0, 0⟩) from rfl, hc]; exact fit_eq rfl)
  rw [e]
  congr 1
  apply List.ext_getElem
  · simp
  · intro i h1 h2
    simp [List.getElem?_eq_getElem h2]
structure ESm.ok (e : ESm) : Prop where
  m0 : 0 ≤ e.more
  m1 : e.more ≤ 255
  s0 : 0 ≤ e.source
  s1 : e.source ≤ 255
def lastE (l : List Evt) : Evt := l.getD (l.length - 1) ⟨0, 0, 0, 0, 0⟩
def mSrc (l : List Evt) (t s : Int) : Int := if 0 < l.length ∧ (lastE l).time = t then max s (lastE l).source else s
def mStep (id : Int) (S : Int × List Evt) (e : ESm) : Int × List Evt := (S.1 + e.more, S.2 ++ [⟨S.1 + e.more, mSrc S.2 (S.1 + e.more) (e.source.tmod 17), S.2.length, id, e.value⟩])
def mEv (id : Int) (l : List ESm) : Int × List Evt := l.foldl (mStep id) (1, [])
theorem mEv_snoc (id : Int) (l : List ESm) (e : ESm) : mEv id (l ++ [e]) = mStep id (mEv id l) e := by simp [mEv]
def mPorts (ps : List Int) : List Int := ps.map fun x => x.tmod 17
structure MI (id : Int) (k : Nat) (S : Int × List Evt) : Prop where
  n : S.2.length = k
  t0 : 1 ≤ S.1
  t1 : S.1 ≤ 1 + 255 * (k : Int)
  l : 0 < k → (lastE S.2).time = S.1 ∧ 0 ≤ (lastE S.2).source ∧ (lastE S.2).source ≤ 16
  b : ∀ q, q < k → (keyB (S.2.getD q ⟨0, 0, 0, 0, 0⟩).time (S.2.getD q ⟨0, 0, 0, 0, 0⟩).source (S.2.getD q ⟨0, 0, 0, 0, 0⟩).seq = true ∧ (S.2.getD q ⟨0, 0, 0, 0, 0⟩).to_ = id ∧ 1 ≤ (S.2.getD q ⟨0, 0, 0, 0, 0⟩).time ∧ (S.2.getD q ⟨0, 0, 0, 0, 0⟩).seq = q) ∧ (0 < q → (kcE (S.2.getD (q - 1) ⟨0, 0, 0, 0, 0⟩) (S.2.getD q ⟨0, 0, 0, 0, 0⟩)).1 = -1)
theorem kcmp_lt {t s q t' s' q' : Int} (h : t < t' ∨ (t = t' ∧ (s < s' ∨ (s = s' ∧ q < q')))) : (kcmp t s q t' s' q').1 = -1 := by
  unfold kcmp
  rw [if_neg (by omega)]
  by_cases h1 : t = t'
  · rw [if_neg (fun h => h h1)]
    by_cases h2 : s = s'
    · rw [if_neg (fun h => h h2)]; unfold icmp; rw [if_pos (by omega)]
    · rw [if_pos h2]; unfold icmp; rw [if_pos (by omega)]
  · rw [if_pos h1]; unfold icmp; rw [if_pos (by omega)]
theorem getD_app_lt {α : Type} {l m : List α} {q : Nat} {d : α} (h : q < l.length) : (l ++ m).getD q d = l.getD q d := by
  rw [List.getD_eq_getElem?_getD, List.getD_eq_getElem?_getD, List.getElem?_append_left h]
theorem getD_snoc {α : Type} {l : List α} {x d : α} : (l ++ [x]).getD l.length d = x := by
  rw [List.getD_eq_getElem?_getD, List.getElem?_append_right (Nat.le_refl _), Nat.sub_self]; rfl
theorem mi_step {id : Int} {k : Nat} {S : Int × List Evt} {e : ESm} (h : MI id k S) (hk : k < 200) (he : e.ok) : MI id (k + 1) (mStep id S e) := by
  have n := h.n
  have t0 := h.t0
  have t1 := h.t1
  have m0 := he.m0
  have m1 := he.m1
  have s0 := Int.tmod_nonneg 17 he.s0
  have s1 := Int.tmod_lt_of_pos e.source (show (0 : Int) < 17 by decide)
  have hsrc : 0 ≤ mSrc S.2 (S.1 + e.more) (e.source.tmod 17) ∧ mSrc S.2 (S.1 + e.more) (e.source.tmod 17) ≤ 16 := by
    unfold mSrc
    split
    · rename_i hc
      have := h.l (by omega)
      omega
    · omega
  have hlen : (S.2 ++ [(⟨S.1 + e.more, mSrc S.2 (S.1 + e.more) (e.source.tmod 17), S.2.length, id, e.value⟩ : Evt)]).length = k + 1 := by simp [n]
  have hlast : lastE (S.2 ++ [(⟨S.1 + e.more, mSrc S.2 (S.1 + e.more) (e.source.tmod 17), S.2.length, id, e.value⟩ : Evt)]) = ⟨S.1 + e.more, mSrc S.2 (S.1 + e.more) (e.source.tmod 17), S.2.length, id, e.value⟩ := by
    unfold lastE
    rw [hlen, show k + 1 - 1 = S.2.length by omega, getD_snoc]
  refine ⟨hlen, by show 1 ≤ S.1 + e.more; omega, by show S.1 + e.more ≤ _; omega, fun _ => ?_, fun q hq => ?_⟩
  · show (lastE (S.2 ++ [_])).time = S.1 + e.more ∧ _
    rw [show lastE (mStep id S e).2 = lastE (S.2 ++ [(⟨S.1 + e.more, mSrc S.2 (S.1 + e.more) (e.source.tmod 17), S.2.length, id, e.value⟩ : Evt)]) from rfl, hlast]
    exact ⟨rfl, hsrc.1, hsrc.2⟩
  · by_cases hqk : q < k
    · have e1 : (mStep id S e).2.getD q ⟨0, 0, 0, 0, 0⟩ = S.2.getD q ⟨0, 0, 0, 0, 0⟩ := getD_app_lt (by omega)
      have e2 : (mStep id S e).2.getD (q - 1) ⟨0, 0, 0, 0, 0⟩ = S.2.getD (q - 1) ⟨0, 0, 0, 0, 0⟩ := getD_app_lt (by omega)
      rw [e1, e2]
      exact h.b q hqk
    · obtain rfl : q = S.2.length := by omega
      have e1 : (mStep id S e).2.getD S.2.length ⟨0, 0, 0, 0, 0⟩ = ⟨S.1 + e.more, mSrc S.2 (S.1 + e.more) (e.source.tmod 17), S.2.length, id, e.value⟩ := getD_snoc
      rw [e1]
      refine ⟨⟨decide_eq_true (by dsimp only; omega), rfl, by dsimp only; omega, rfl⟩, fun h0 => ?_⟩
      have e2 : (mStep id S e).2.getD (S.2.length - 1) ⟨0, 0, 0, 0, 0⟩ = lastE S.2 := getD_app_lt (by omega)
      rw [e2]
      obtain ⟨l1, l2, l3⟩ := h.l (by omega)
      have hsq := (h.b (S.2.length - 1) (by omega)).1.2.2.2
      have hsq : (lastE S.2).seq = ((S.2.length - 1 : Nat) : Int) := hsq
      refine kcmp_lt ?_
      dsimp only
      by_cases hm : e.more = 0
      · right
        refine ⟨by omega, ?_⟩
        have hs : (lastE S.2).source ≤ mSrc S.2 (S.1 + e.more) (e.source.tmod 17) := by
          unfold mSrc
          rw [if_pos ⟨by omega, by omega⟩]
          omega
        omega
      · left; omega
theorem mi_all {id : Int} {l : List ESm} (hl : l.length ≤ 200) (hok : ∀ e ∈ l, e.ok) : ∀ k, k ≤ l.length → MI id k (mEv id (l.take k))
  | 0, _ => by rw [List.take_zero]; exact ⟨rfl, by show (1 : Int) ≤ 1; omega, by show (1 : Int) ≤ _; omega, fun h => absurd h (Nat.lt_irrefl 0), fun q hq => absurd hq (Nat.not_lt_zero q)⟩
  | k + 1, hk => by
    rw [take_snoc ⟨0, 0, 0⟩ (by omega), mEv_snoc]
    refine mi_step (mi_all hl hok k (by omega)) (by omega) (hok _ ?_)
    rw [List.getD_eq_getElem?_getD, List.getElem?_eq_getElem (by omega)]
    exact List.getElem_mem _
theorem mEv_good {p : Prc} {l : List ESm} (hl : l.length ≤ 200) (hok : ∀ e ∈ l, e.ok) : (mEv p.id l).2.length = l.length ∧ ∀ q, q < (mEv p.id l).2.length → badAt p (mEv p.id l).2 q = 0 := by
  have h := mi_all (id := p.id) hl hok l.length (Nat.le_refl _)
  rw [List.take_length] at h
  refine ⟨h.n, fun q hq => ?_⟩
  obtain ⟨⟨b1, b2, b3, b4⟩, b5⟩ := h.b q (by rw [h.n] at hq; exact hq)
  unfold badAt
  have ht : takesB p ((mEv p.id l).2.getD q ⟨0, 0, 0, 0, 0⟩) = true := by
    unfold takesB
    rw [b1, b2]
    simp
  rw [if_neg (by rw [ht]; exact Bool.noConfusion), if_neg]
  rintro ⟨h0, h1⟩
  rw [b5 h0] at h1
  omega
end Go.Proofs.Ytjliakjbdcplcaa.Vm
end

section
namespace Go.Proofs.Ytjliakjbdcplcaa.Vm
open Go.RowKit
set_option linter.unusedVariables false
set_option linter.unusedSimpArgs false
set_option maxRecDepth 100000
def NilF (L : List HB) (φ : Fr) : Fr → Prop
  | [] => True
  | p :: l => (∃ u, look φ p.1 = some u ∧ (∀ β : Env, β 0 = (none, 0) → β L.length = (none, 0) → u.den β = p.2.den β)) ∧ NilF L φ l
theorem nilF_spec {L : List HB} {φ : Fr} : ∀ {φ2 : Fr}, NilF L φ φ2 → ∀ p ∈ φ2, ∃ u, look φ p.1 = some u ∧ (∀ β : Env, β 0 = (none, 0) → β L.length = (none, 0) → u.den β = p.2.den β)
  | [], _, p, hp => by cases hp
  | q :: l, h, p, hp => by
    rcases List.mem_cons.1 hp with rfl | hp
    · exact h.1
    · exact nilF_spec h.2 p hp
theorem At.nilFr {w0 : World} {M : Nat → Prop} {E : Env} {n0 N : Nat} {D : List Deferred} {φ φ2 : Fr} {L L2 : List HB} {K : Act → World → Prop} (ty k : Nat) (f : Nat → SV) (hf : ∀ (h : HM) (q : Nat), Stable h (f q))
    (hL2 : L2 = L ++ [.own ty (.arr 0 k f) false]) (hφ : NilF L φ φ2) (hst : StableF (hp L2) φ2) (h : At w0 M E n0 N D φ2 L2 K) : At w0 M E n0 N D φ L K := fun a w hS => by
  subst hL2
  obtain ⟨⟨β, hE, R, F⟩, hbn, hsz, hd⟩ := hS
  have hm : hp L L.length = .dead := hp_dead (Nat.le_refl _)
  have R1 := nothing R (e := ty) (k := k) (g := f) hm (fun q => hf _ q)
  have hag : ∀ i, (hp L i).born = true → β i = setE β L.length (none, 0) i := agree_setE hm
  have hborn : ∀ i, (hp L i).born = true → (upd (hp L) L.length (.own ty (.arr 0 k f) false) i).born = true := fun i hi => by
    unfold Vm.upd; split
    · rfl
    · exact hi
  refine h a w ⟨⟨setE β L.length (none, 0), fun i hi => (hag i (hbn i hi)).symm.trans (hE i hi), by rw [hp_append1]; exact R1, fun u v hu => ?_⟩, fun i hi => by rw [hp_append1]; exact hborn i (hbn i hi), hsz, hd⟩
  have hmem := look_mem hu
  obtain ⟨x, hx, hden⟩ := nilF_spec hφ _ hmem
  obtain ⟨k1, k2⟩ := F u x hx
  refine ⟨stableF_spec hst _ hmem, ?_⟩
  rw [k2, k1.den hag]
  exact hden _ R1.nil (setE_same _ _ _)
theorem WF.nilFr {P : Program} {w0 : World} {M : Nat → Prop} {E : Env} {n0 N n : Nat} {D : List Deferred} {φ φ2 : Fr} {L L2 : List HB} {c : Code} {ro : Option Nat} {Q : Exit → Act → World → Prop} (ty k : Nat) (f : Nat → SV) (hf : ∀ (h : HM) (q : Nat), Stable h (f q))
    (hL2 : L2 = L ++ [.own ty (.arr 0 k f) false]) (hφ : NilF L φ φ2) (hst : StableF (hp L2) φ2) (h : WF ro n P c w0 M E n0 N D φ2 L2 Q) : WF ro n P c w0 M E n0 N D φ L Q := At.nilFr ty k f hf hL2 hφ hst h
end Go.Proofs.Ytjliakjbdcplcaa.Vm
end

section
open Go.Proofs.Ytjliakjbdcplcaa.Vm Go.RowKit
attribute [local push_cast] runR opG gtmp gval gus opX tmpsOf tm tmO tmP restr look look2 tab tys zs ets eqB eqBL allB numOf ieq Int.cast_ofNat_Int Int.ofNat_zero beq_true beq_false frameOf ev evL ofV opV loadV noW pushF wrsL setH allBorn allGone HB.born HB.isGone HB.val SV.plain dstOk hp nav fitsT SV.size sizeL SV.isAgg TK.size TK.agg bin binE binN binI arN arI cmpN cmpI keq kn narrow callV storeV setp fillV buildV buildSliceV makeV sliceV appendV appendFV slice3V copyV List.isEmpty_nil srcV evO asN ite_t ite_f ite_bool ite_int ite_nat maxV v_beq v_ble v_blt cond_true cond_false List.getElem?_cons_zero List.getElem?_cons_succ List.getD_cons_zero List.getD_cons_succ List.getD_nil List.length_cons List.length_nil List.take_succ_cons List.take_zero List.set_cons_zero List.set_cons_succ List.cons_append List.nil_append List.append_assoc List.replicate_succ List.replicate_zero Nat.zero_add Nat.add_zero decide_true decide_false Bool.true_and Bool.and_true Bool.false_and Bool.and_false Bool.true_or Bool.or_true Bool.false_or Bool.or_false beq_self_eq_true Bool.or_self Nat.lt_irrefl Nat.not_lt_zero Nat.le_refl Option.getD_some Option.getD_none BEq.rfl Bool.not_true Bool.not_false Bool.cond_true_left Bool.cond_false_right prS sndsS i64S nav_ins nav_ins0 nav_ins1 nav_ins2 nav_ins3 nav_ins4 nav_snd nav_snd0 nav_snd1 nav_snd2 isIns_insS insOf_insS isSnd_sndS sndOf_sndS isI_int isI_nat iOf
section
namespace Go.Proofs.Ytjliakjbdcplcaa.Vm
open Go.RowKit
set_option linter.unusedVariables false
set_option linter.unusedSimpArgs false
set_option maxRecDepth 100000
set_option maxHeartbeats 4000000
def rvS (e a b c u : Nat) (w : Bool) : SV := .agg [.ptr e [], .fn 44 [.ptr a [], .ptr b [], .ptr c []], .nat .i64 u, .bool w]
def rB (e a b c u : Nat) (w : Bool) : HB := .own 125 (rvS e a b c u w) true
end Go.Proofs.Ytjliakjbdcplcaa.Vm
end

section
namespace Go.Proofs.Ytjliakjbdcplcaa.Vm
open Go.RowKit
attribute [local push_cast] runR opG gtmp gval gus opX tmpsOf tm tmO tmP restr look look2 tab tys zs ets eqB eqBL allB numOf ieq Int.cast_ofNat_Int Int.ofNat_zero beq_true beq_false frameOf ev evL ofV opV loadV noW pushF wrsL setH allBorn allGone HB.born HB.isGone HB.val SV.plain dstOk hp nav fitsT SV.size sizeL SV.isAgg TK.size TK.agg bin binE binN binI arN arI cmpN cmpI keq kn narrow callV storeV setp fillV buildV buildSliceV makeV sliceV appendV appendFV slice3V copyV List.isEmpty_nil srcV evO asN ite_t ite_f ite_bool ite_int ite_nat maxV v_beq v_ble v_blt cond_true cond_false List.getElem?_cons_zero List.getElem?_cons_succ List.getD_cons_zero List.getD_cons_succ List.getD_nil List.length_cons List.length_nil List.take_succ_cons List.take_zero List.set_cons_zero List.set_cons_succ List.cons_append List.nil_append List.append_assoc List.replicate_succ List.replicate_zero Nat.zero_add Nat.add_zero decide_true decide_false Bool.true_and Bool.and_true Bool.false_and Bool.and_false Bool.true_or Bool.or_true Bool.false_or Bool.or_false beq_self_eq_true Bool.or_self Nat.lt_irrefl Nat.not_lt_zero Nat.le_refl Option.getD_some Option.getD_none BEq.rfl Bool.not_true Bool.not_false Bool.cond_true_left Bool.cond_false_right prS sndsS i64S nav_ins nav_ins0 nav_ins1 nav_ins2 nav_ins3 nav_ins4 nav_snd nav_snd0 nav_snd1 nav_snd2 isIns_insS insOf_insS isSnd_sndS sndOf_sndS isI_int isI_nat iOf JM eB prO JE inR inN nodupN memN
set_option linter.unusedVariables false
set_option linter.unusedSimpArgs false
set_option maxRecDepth 100000
set_option maxHeartbeats 4000000
end Go.Proofs.Ytjliakjbdcplcaa.Vm
end

section
namespace Go.Proofs.Ytjliakjbdcplcaa.Vm
open Go.RowKit
set_option linter.unusedVariables false
set_option linter.unusedSimpArgs false
set_option maxRecDepth 100000
set_option maxHeartbeats 4000000
end Go.Proofs.Ytjliakjbdcplcaa.Vm
end

section
namespace Go.Proofs.Ytjliakjbdcplcaa.Vm
open Go.RowKit
set_option linter.unusedVariables false
set_option linter.unusedSimpArgs false
set_option maxRecDepth 100000
set_option maxHeartbeats 4000000
section
variable {ρ : Nat → Nat} {h h' : HM} {a b c i j x y : Nat} {s : Sta} {v : Evi} {P : List Ins} {ok : Prop}
end
end Go.Proofs.Ytjliakjbdcplcaa.Vm
end

section
namespace Go.Proofs.Ytjliakjbdcplcaa.Vm
open Go.RowKit
set_option linter.unusedVariables false
set_option linter.unusedSimpArgs false
set_option maxRecDepth 100000
set_option maxHeartbeats 4000000
end Go.Proofs.Ytjliakjbdcplcaa.Vm
end

section
namespace Go.Proofs.Ytjliakjbdcplcaa.Vm
open Go.RowKit
attribute [local push_cast] runR opG gtmp gval gus opX tmpsOf tm tmO tmP restr look look2 tab tys zs ets eqB eqBL allB numOf ieq Int.cast_ofNat_Int Int.ofNat_zero beq_true beq_false frameOf ev evL ofV opV loadV noW pushF wrsL setH allBorn allGone HB.born HB.isGone HB.val SV.plain dstOk hp nav fitsT SV.size sizeL SV.isAgg TK.size TK.agg bin binE binN binI arN arI cmpN cmpI keq kn narrow callV storeV setp fillV buildV buildSliceV makeV sliceV appendV appendFV slice3V copyV List.isEmpty_nil srcV evO asN ite_t ite_f ite_bool ite_int ite_nat maxV v_beq v_ble v_blt cond_true cond_false List.getElem?_cons_zero List.getElem?_cons_succ List.getD_cons_zero List.getD_cons_succ List.getD_nil List.length_cons List.length_nil List.take_succ_cons List.take_zero List.set_cons_zero List.set_cons_succ List.cons_append List.nil_append List.append_assoc List.replicate_succ List.replicate_zero Nat.zero_add Nat.add_zero decide_true decide_false Bool.true_and Bool.and_true Bool.false_and Bool.and_false Bool.true_or Bool.or_true Bool.false_or Bool.or_false beq_self_eq_true Bool.or_self Nat.lt_irrefl Nat.not_lt_zero Nat.le_refl Option.getD_some Option.getD_none BEq.rfl Bool.not_true Bool.not_false Bool.cond_true_left Bool.cond_false_right prS sndsS i64S nav_ins nav_ins0 nav_ins1 nav_ins2 nav_ins3 nav_ins4 nav_snd nav_snd0 nav_snd1 nav_snd2 isIns_insS insOf_insS isSnd_sndS sndOf_sndS isI_int isI_nat iOf JM eB prO JE inR inN nodupN memN
set_option linter.unusedVariables false
set_option linter.unusedSimpArgs false
set_option maxRecDepth 100000
set_option maxHeartbeats 4000000
end Go.Proofs.Ytjliakjbdcplcaa.Vm
end

section
namespace Go.Proofs.Ytjliakjbdcplcaa.Vm
open Go.RowKit
set_option linter.unusedVariables false
set_option linter.unusedSimpArgs false
set_option maxRecDepth 100000
set_option maxHeartbeats 4000000
end Go.Proofs.Ytjliakjbdcplcaa.Vm
end
end

section
namespace Go.Proofs.Ytjliakjbdcplcaa.Vm
open Go.RowKit
set_option linter.unusedVariables false
set_option linter.unusedSimpArgs false
set_option maxRecDepth 100000
end Go.Proofs.Ytjliakjbdcplcaa.Vm
end

section
namespace Go.Proofs.Ytjliakjbdcplcaa.Vm
open Go.RowKit
set_option linter.unusedVariables false
set_option linter.unusedSimpArgs false
set_option maxRecDepth 100000
def sMd14 : Spec := fun args h m => match args with
  | [.sl z i pa k s n' (some cp)] => match srcV h 5 (.tup []) (.sl z i pa k s n' (some cp)) with
    | some (c, n, f, rd) =>
        some (c ∧ n = n' ∧ (∀ q, q < n → isIns (f q) = true) ∧ (∀ x ∈ ls insOf n f, x.ok) ∧ max n cp ≤ 9223372036854775807, .sl m m [] 5 0 (made14 (ls insOf n f)).length none, rd, [(m, .own 73 (.arr (made14 (ls insOf n f)).length 5 (prS (made14 (ls insOf n f)))) false)])
    | _ => none
  | _ => none
theorem sMd14_ok : CallOk Try.prog 42 sMd14 := by
  refine ⟨named_spec (by kernel_rfl), fun args h m c v rd wr hs hm hc w0 M β h' w R hrd hwr hst => ?_⟩
  unfold sMd14 at hs
  split at hs
  · rename_i z i pa k' s n' cp
    split at hs
    · rename_i c' n f rd' ha
      simp only [Option.some.injEq, Prod.mk.injEq] at hs
      obtain ⟨rfl, rfl, rfl, rfl⟩ := hs
      obtain ⟨hc1, hn, hi, hok, hcp⟩ := hc
      obtain ⟨A, cap, hden, hnc, hr⟩ := reads_src R ha hc1 hrd (by omega)
      rw [elems_ins hi] at hr
      have hcap : cap ≤ 9223372036854775807 := by
        simp only [SV.den, Option.getD_some] at hden
        injection hden with _ _ h3
        omega
      simp only [denL, hden]
      refine (made14_c (ls insOf n f) hok A n cap w hr hnc hcap).mono fun e w' he => ?_
      obtain ⟨p, rfl, ho, hb⟩ := he
      have hmd : h' m = .dead := (hwr _ (.head _)).trans (hm m (Nat.le_refl _))
      obtain ⟨e', R', hv⟩ := (R.below hb).made (f := prS (made14 (ls insOf n f))) hmd ho R.size (elems_prS _) prS_stable (fun g i a' hg hmi hai e => by
        have := R.lt i a' hmi hai
        obtain ⟨_, ⟨rfl, _⟩ | ⟨g', cap', cur, rfl, hg', _⟩⟩ := ho
        · cases hg
        · simp [Value.ownBlock] at hg
          omega)
      exact ⟨_, agree_setE hmd, R', stable_new, by rw [hv]⟩
    · cases hs
  · cases hs
end Go.Proofs.Ytjliakjbdcplcaa.Vm
end

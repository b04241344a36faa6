import Derived.Test.YtjliakjbdcplcaaGreatS6
import Derived.Test.YtjliakjbdcplcaaGreatS7
import Derived.Test.YtjliakjbdcplcaaGreatS9
import Derived.Test.YtjliakjbdcplcaaGreatS11
import Derived.Test.YtjliakjbdcplcaaGreatS17
section
namespace Go.Proofs.YtjliakjbdcplcaaGreat.Vm
theorem b130 {P : Prop} (h : P := by (repeat' (first | exact trivial | exact rfl | assumption | apply Stable.ite | apply And.intro | intro _ | (simp only [Stable, StableL, dnB, DnI.at_, dnS, dnR, pcS, i64S, prS, insS, sndsS, sndS, evtsS, evtS, prO, i64O, inO, evO_, cB, sB, u8S, esS, esA, HB.stable]; done)))) : P := h
theorem b131 {P : Prop} (h : P := by (first | exact True.intro | ((try simp only [JS, Nat.zero_add, implies_true, forall_const, shaped, shapedL, kndOf, ls_i64S', ls_i64S, ls_prS, ls_prS', ls_u8S, ls_u8S', ls_esS, ls_esS', ls_evtsS', ls_evtsS, ls_evtsS2, ls_length, evtOf_evtS, prc_eta, rul_eta, dnn_eta, iOf, capB]); (repeat' (first | exact True.intro | assumption | omega | apply And.intro | rfl | decide | intro _)); done) | ((try simp only [JS, implies_true, forall_const, shaped, shapedL, kndOf]); (repeat' (first | assumption | exact True.intro | omega | apply And.intro)); done))) : P := h
end Go.Proofs.YtjliakjbdcplcaaGreat.Vm
end
section
namespace Go.Proofs.YtjliakjbdcplcaaGreat.Vm
open Go.RowKit
attribute [local push_cast] runR opG gtmp gval gus opX tmpsOf tm tmO tmP restr look look2 tab tys zs ets eqB eqBL allB numOf ieq Int.cast_ofNat_Int Int.ofNat_zero beq_true beq_false frameOf ev evL ofV opV loadV noW pushF wrsL setH allBorn allGone HB.born HB.isGone HB.val SV.plain dstOk hp nav fitsT SV.size sizeL SV.isAgg TK.size TK.agg bin binE binN binI arN arI cmpN cmpI keq kn narrow callV storeV setp fillV buildV buildSliceV makeV sliceV appendV appendFV slice3V copyV List.isEmpty_nil srcV evO asN ite_t ite_f ite_bool ite_int ite_nat maxV v_beq v_ble v_blt cond_true cond_false List.getElem?_cons_zero List.getElem?_cons_succ List.getD_cons_zero List.getD_cons_succ List.getD_nil List.length_cons List.length_nil List.take_succ_cons List.take_zero List.set_cons_zero List.set_cons_succ List.cons_append List.nil_append List.append_assoc List.replicate_succ List.replicate_zero Nat.zero_add Nat.add_zero decide_true decide_false Bool.true_and Bool.and_true Bool.false_and Bool.and_false Bool.true_or Bool.or_true Bool.false_or Bool.or_false beq_self_eq_true Bool.or_self Nat.lt_irrefl Nat.not_lt_zero Nat.le_refl Option.getD_some Option.getD_none BEq.rfl Bool.not_true Bool.not_false Bool.cond_true_left Bool.cond_false_right prS sndsS i64S nav_ins nav_ins0 nav_ins1 nav_ins2 nav_ins3 nav_ins4 nav_snd nav_snd0 nav_snd1 nav_snd2 isIns_insS insOf_insS isSnd_sndS sndOf_sndS isI_int isI_nat iOf JM JE JB prc_eta rul_eta dnn_eta dnB dnS DnI.at_ DnI.v dnR dn0 evO_ pcS prO i64O inO sAw28 sMd28 sAllG sAllF sPCheck sKRight sCont sEqIns sEqInt sEq28 evtsS nav_evt nav_evt0 nav_evt1 nav_evt2 evm_ev isEvt_evtS evtOf_evtS inR inN evtOf_agg isEvt_agg nat_zero_int ls_zero ls_u8S ls_u8S' ls_esS ls_esS' ls_evtsS ls_evtsS' ls_evtsS2
set_option linter.unusedVariables false
set_option linter.unusedSimpArgs false
set_option maxRecDepth 100000
set_option maxHeartbeats 4000000
theorem eqD_zero : eqD ⟨0, [], [], 0, 0, []⟩ [] 0 ⟨0, [], [], 0, 0, []⟩ [] 0 = true := by decide
theorem procE_of {r : Rul} {p : Prc} (hr : r.rightB = true) (hp : p.rightB = true) : procE r p = 0 := by
  unfold procE; rw [if_neg (by rw [hr]; exact Bool.noConfusion), if_neg (by rw [hp]; exact Bool.noConfusion)]
def cSnG : FuncId → Option Spec := look2 [(21, sAw28), (23, sMd28), (24, sAllG), (30, sPCheck), (26, sKRight), (27, sCont), (28, sEqIns), (29, sEqInt), (25, sEq28)]
theorem cSnG_ok : ∀ f S, cSnG f = some S → CallOk Tryz.prog f S := allOk_spec ⟨sAw28_ok, sMd28_ok, sAllG_ok, sPCheck_ok, sKRight_ok, sCont_ok, sEqIns_ok, sEqInt_ok, sEq28_ok, trivial⟩
def cSnF (i : Nat) : FuncId → Option Spec := look2 [(21, sAw28), (23, sMd28), (24, (sAllF i)), (30, sPCheck), (26, sKRight), (27, sCont), (28, sEqIns), (29, sEqInt), (25, sEq28)]
theorem cSnF_ok (i : Nat) : ∀ f S, cSnF i f = some S → CallOk Tryz.prog f S := allOk_spec ⟨sAw28_ok, sMd28_ok, sAllF_ok i, sPCheck_ok, sKRight_ok, sCont_ok, sEqIns_ok, sEqInt_ok, sEq28_ok, trivial⟩
theorem sends_lit (xs : List Ins) (a d sn seed id ahead fuel sq : Int) (rg : Nat → Int) (cs ps : List Int) (es : List ESm) (p1 p2 p3 p4 : Nat) (hx : ∀ x ∈ xs, x.ok) (hcap : max xs.length p1 ≤ 9223372036854775807) (hcp : cs.length ≤ p2) (ha : 0 ≤ a ∧ a ≤ 255) (hd : 0 ≤ d ∧ d ≤ 4294967295) (hs : 0 ≤ sn ∧ sn ≤ 255) (hid : 0 ≤ id ∧ id ≤ 255) (hah : 0 ≤ ahead ∧ ahead ≤ 255) (hf : 0 ≤ fuel ∧ fuel ≤ 65535) (hsq : 0 ≤ sq ∧ sq ≤ 65535) (hps : ∀ q, 0 ≤ ps.getD q 0 ∧ ps.getD q 0 ≤ 255) (hpl : ps.length ≤ p3) (hp3 : p3 ≤ 9223372036854775807) (hes : ∀ e ∈ es, e.ok) (hel : es.length ≤ p4) (hp4 : p4 ≤ 9223372036854775807) : LitOk Tryz.prog 8 [.agg [.sl 1 2 [] 5 0 xs.length (some p1), .agg [.int .u8 a, .arr 8 1 (fun q => .int .i64 (rg q)), .sl 3 4 [] 1 0 cs.length (some p2), .int .u32 d, .int .u8 sn], .int .u64 seed, .int .u8 id, .int .u8 ahead, .int .u16 fuel, .int .u16 sq, .sl 5 6 [] 1 0 ps.length (some p3), .sl 7 8 [] 3 0 es.length (some p4)]]
    [.gone, .gone, .ro (.arr xs.length 5 (prS xs)), .gone, .ro (.arr cs.length 1 (i64S cs)), .gone, .ro (.arr ps.length 1 (u8S ps)), .gone, .ro (.arr es.length 3 (esS es))] (.bool true) [.gone] := by
  have y0 := Int.tmod_nonneg 16 hid.1
  have y1 := Int.tmod_lt_of_pos id (show (0 : Int) < 16 by decide)
  have y2 := Int.tmod_nonneg 5 hah.1
  have y3 := Int.tmod_lt_of_pos ahead (show (0 : Int) < 5 by decide)
  have y4 := Int.tmod_nonneg 300 hf.1
  have y5 := Int.tmod_lt_of_pos fuel (show (0 : Int) < 300 by decide)
  have hE0 := made28_proc xs (cs := cs) (ps := ps) (seed := seed) hid.1 hah.1 hf.1 hsq hd hps
  have hok := made14_ok xs hx
  have hml := (made14_le xs).2
  have hct : (cs.take 12).length ≤ 12 := by rw [List.length_take]; omega
  have hpt : (mPorts (ps.take 16)).length ≤ 16 := by simp [mPorts]; omega
  have hG := mEv_good (p := ⟨1 + id.tmod 16, made14 xs, cs.take 12, d, sq, mPorts (ps.take 16)⟩) (l := es.take 10) (by rw [List.length_take]; omega) (fun e he => hes e (List.mem_of_mem_take he))
  have hGl := hG.1
  have hGb := hG.2
  rw [List.length_take] at hGl
  dsimp only at hGl hGb
  have hcapx : max xs.length p1 ≤ 9223372036854775807 := hcap
  have hcapp : max ps.length p3 ≤ 9223372036854775807 := by omega
  have hcape : max es.length p4 ≤ 9223372036854775807 := by omega
  obtain ⟨PP, hPP⟩ : ∃ x, made14 xs = x := ⟨_, rfl⟩
  obtain ⟨CC, hCC⟩ : ∃ x, cs.take 12 = x := ⟨_, rfl⟩
  obtain ⟨QQ, hQQ⟩ : ∃ x, mPorts (ps.take 16) = x := ⟨_, rfl⟩
  obtain ⟨ID, hID⟩ : ∃ x, 1 + id.tmod 16 = x := ⟨_, rfl⟩
  obtain ⟨AH, hAH⟩ : ∃ x, 1 + ahead.tmod 5 = x := ⟨_, rfl⟩
  obtain ⟨FU, hFU⟩ : ∃ x, fuel.tmod 300 = x := ⟨_, rfl⟩
  rw [hPP, hCC, hQQ, hID, hAH, hFU] at hE0
  rw [hPP] at hok hml
  rw [hCC] at hct
  rw [hQQ] at hpt
  rw [hPP, hCC, hQQ, hID] at hGb
  rw [hID] at hGl
  obtain ⟨L, hL⟩ : ∃ x, (mEv ID (es.take 10)).2 = x := ⟨_, rfl⟩
  rw [hL] at hGl hGb
  have hLl : L.length ≤ 10 := by omega
  have hn : PP.length ≤ 1000000 := by omega
  have hc : CC.length ≤ 1000000 := by omega
  have hq : QQ.length ≤ 1000000 := by omega
  rcases all_or ⟨seed, AH, FU⟩ ⟨⟨ID, PP, CC, d, sq, QQ⟩, [], 0⟩ L L.length with hA | ⟨k0, hk0, hA, hk1⟩
  · obtain ⟨W, hW⟩ : ∃ W, foldD ⟨seed, AH, FU⟩ ⟨⟨ID, PP, CC, d, sq, QQ⟩, [], 0⟩ L = W := ⟨_, rfl⟩
    have hFW := fi_all hE0 hok hGb L.length (Nat.le_refl _) hA
    have hSW := sn_all hE0 hok hGb L.length (Nat.le_refl _) hA
    rw [List.take_length, hW] at hFW hSW
    have hrf := of_decide_eq_true (show decide _ = true from (procE_zero hE0).1)
    dsimp only at hrf
    have hPW := procE_of (procE_zero hE0).1 hFW.hp
    have v1 := hFW.P
    have v2 := hFW.id
    have v3 := hFW.po
    have v4 := hFW.cl
    have v5 := hFW.dr
    have v6 := hFW.sq
    have v7 := hFW.us
    have v8 := hSW.u
    have v9 := hFW.su
    dsimp only at v1 v2 v3 v4 v5 v6 v7
    have hok2 : ∀ x ∈ W.p.P, x.ok := by rw [v1]; exact hok
    have hWP : W.p.P.length ≤ 1000000 := by rw [v1]; exact hn
    have hWC : W.p.cells.length ≤ 1000000 := by rw [v4]; exact hc
    have hWQ : W.p.ports.length ≤ 1000000 := by rw [v3]; exact hq
    have hmul : FU * ((L.length : Nat) : Int) ≤ 4096 * 10 := Int.le_trans (Int.mul_le_mul_of_nonneg_right hrf.2.2.2 (by omega)) (by omega)
    have hmul0 : 0 ≤ FU * ((L.length : Nat) : Int) := Int.mul_nonneg hrf.2.2.1 (by omega)
    have hz0 : W.sent.length ≠ 0 → L.length ≠ 0 := fun h hl => h (by
      rw [← hW, List.eq_nil_of_length_eq_zero hl]; rfl)

    refine litOkM (fn := Tryz.f8) 9 171 0 rfl rfl rfl rfl rfl (by simp only [StableL, Stable, hp, dnB, DnI.at_, dnS, dnR, pcS, i64S, prS, insS, sndsS, sndS, evtsS, evtS, prO, i64O, inO, evO_, cB, sB, u8S, esS, esA, HB.stable]; simp [HB.born]) rfl fun w0 M E hro => ?_
    repeat' (first | refine Ctl.h ?_ | ((with_reducible intro hif); first | (focus (cases hif; done)) | (simp only [JH] at hif; try (exfalso; omega)) | (try (exfalso; omega))) | ((first | ((with_reducible apply J22 cSnG_ok tab_ok); (· rfl)) | ((with_reducible apply J23 fol cSnG_ok tab_ok); (· rfl)) | with_reducible apply J24); (· (simp only [push_cast, ↓JP, Nat.reduceAdd, Nat.reduceEqDiff, Nat.reduceLT, Nat.reduceMul, Nat.reduceLeDiff, reduceCtorEq, reduceIte, ↓JK, cSnG, ↓evtS_sz, ↓evtS_ag, ↓evtS_pl, Nat.sub_zero, hPP, hCC, hQQ, hID, hAH, hFU, hL, hW]; rfl)); (try kernel_rfl); (try exact Vm.b131)) | fail)
    refine WF.loopAt (fun (j : Nat) => j ≤ W.sent.length) (fun (j : Nat) => [(1, .ptr 9 []), (3, .ptr 14 []), (4, .ptr 15 []), (5, .sl 13 13 [] 5 0 L.length none), (6, .ptr 20 []), (7, .int .i64 (-1)), (8, .int .i64 0), (33, .sl 19 19 [] 5 0 W.sent.length none), (34, .nat .i64 W.sent.length), (35, .nat .i64 j)]) (fun (j : Nat) => [.gone, .gone, .ro (.arr xs.length 5 (prS xs)), .gone, .ro (.arr cs.length 1 (i64S cs)), .gone, .ro (.arr ps.length 1 (u8S ps)), .gone, .ro (.arr es.length 3 (esS es)), .own 78 (.agg [.sl 1 2 [] 5 0 xs.length (some p1), .agg [.int .u8 a, .arr 8 1 (fun q => .int .i64 (rg q)), .sl 3 4 [] 1 0 cs.length (some p2), .int .u32 d, .int .u8 sn], .int .u64 seed, .int .u8 id, .int .u8 ahead, .int .u16 fuel, .int .u16 sq, .sl 5 6 [] 1 0 ps.length (some p3), .sl 7 8 [] 3 0 es.length (some p4)]) true, .own 38 (.arr PP.length 5 (prS PP)) false, .own 2 (.arr CC.length 1 (i64S CC)) false, .own 3 (.arr QQ.length 1 (i64S QQ)) false, .own 29 (.arr L.length 5 (evtsS L)) false, .own 65 (.agg [.int .u64 seed, .int .i64 AH, .int .i64 FU]) true, .own 67 (.agg [.int .i64 ID, .sl 10 10 [] 5 0 PP.length none, .sl 11 11 [] 1 0 CC.length none, .int .i64 d, .int .i64 sq, .sl 12 12 [] 1 0 QQ.length none]) true, prO W.p.P, i64O W.p.cells, inO W.p.ports, evO_ W.sent, dnB W 16 17 18 19]) (fun (j : Nat) => W.sent.length - j) 0 (Nat.zero_le _) ?_ ?_ rfl ?_ ?_ rfl ?_
    · exact Vm.b11
    · exact Vm.b8
    · exact Vm.b130
    · exact Vm.b130
    intro j hj
    by_cases hjl : j < W.sent.length
    · obtain ⟨e, he⟩ : ∃ e, W.sent.getD j ⟨0, 0, 0, 0, 0⟩ = e := ⟨_, rfl⟩
      have hS := hSW.e j hjl
      rw [he] at hS
      have s1 := hS.k
      have s2 := hS.s
      have s3 := hS.q
      have s4 := hS.t
      have s5 : e.to_ ∈ QQ := List.contains_iff_mem.1 hS.p
      have s6 := hS.z
      dsimp only at s2 s3 s4
      rw [s2, s3] at s1
      have hL0 : ¬ L.length = 0 := hz0 (by omega)
      have hL1 : 0 < L.length := by omega
      have t0 := badAt_takes (hGb 0 hL1)
      have t1 := takes_key t0
      have s4' : ¬ e.time < (L.getD 0 ⟨0, 0, 0, 0, 0⟩).time + AH := by omega
      have hsj : ((sq : Int) + (j : Int)) ≤ 9223372036854775807 := by omega

      repeat' (first | refine Ctl.h ?_ | ((with_reducible intro hif); first | (focus (cases hif; done)) | (simp only [JH] at hif; try (exfalso; omega)) | (try (exfalso; omega))) | ((first | ((with_reducible apply J22 cSnG_ok tab_ok); (· rfl)) | ((with_reducible apply J23 fol cSnG_ok tab_ok); (· rfl)) | with_reducible apply J24); (· (simp only [push_cast, ↓JP, Nat.reduceAdd, Nat.reduceEqDiff, Nat.reduceLT, Nat.reduceMul, Nat.reduceLeDiff, reduceCtorEq, reduceIte, ↓JK, cSnG, ↓evtS_sz, ↓evtS_ag, ↓evtS_pl, Nat.sub_zero, hPP, hCC, hQQ, hID, hAH, hFU, hL, hjl, he, s1, s2, s3, s4', s5, s6, hL0]; rfl)); (try kernel_rfl); (try (focus (first | exact True.intro | ((try simp only [JS, Nat.zero_add, implies_true, forall_const, shaped, shapedL, kndOf, ls_i64S', ls_i64S, ls_prS, ls_prS', ls_u8S, ls_u8S', ls_esS, ls_esS', ls_evtsS', ls_evtsS, ls_evtsS2, ls_length, evtOf_evtS, prc_eta, rul_eta, dnn_eta, iOf, capB, hjl, he, s1, s2, s3, s4', s5, s6, hL0]); (repeat' (first | exact True.intro | assumption | omega | apply And.intro | rfl | decide | intro _)); done) | ((try simp only [JS, implies_true, forall_const, shaped, shapedL, kndOf]); (repeat' (first | assumption | exact True.intro | omega | apply And.intro)); done))))) | fail)
      refine At.nextPick [0, 1, 2, 3, 4, 5, 6, 7, 8, 9, 10, 11, 12, 13, 14, 15, 16, 17, 18, 19, 20] (j + 1) ?_ rfl rfl rfl ?_ rfl ?_ ?_ ?_ rfl
      · omega
      · exact Vm.b37
      · exact Vm.b130
      · exact Vm.b64
      · exact Vm.b130
    · have hjn : j = W.sent.length := by omega
      have q1 : eqL W.p.P PP = true := by rw [v1]; exact eqL_true rfl
      have q2 : eqL W.p.ports QQ = true := by rw [v3]; exact eqL_true rfl
      have v5' : ¬ W.p.draws < d := by omega
      have v2t := eq_true v2
      have v4t := eq_true v4
      have v6t := eq_true v6
      have v7' : ¬ FU * ((L.length : Nat) : Int) < (W.used : Int) := by omega
      have v8' : ¬ W.used < L.length := by omega

      repeat' (first | refine Ctl.h ?_ | ((with_reducible intro hif); first | (focus (cases hif; done)) | (simp only [JH] at hif; try (exfalso; omega)) | (try (exfalso; omega))) | ((first | ((with_reducible apply J22 cSnG_ok tab_ok); (· rfl)) | ((with_reducible apply J23 fol cSnG_ok tab_ok); (· rfl)) | with_reducible apply J24); (· (simp only [push_cast, ↓JP, Nat.reduceAdd, Nat.reduceEqDiff, Nat.reduceLT, Nat.reduceMul, Nat.reduceLeDiff, reduceCtorEq, reduceIte, ↓JK, cSnG, ↓evtS_sz, ↓evtS_ag, ↓evtS_pl, Nat.sub_zero, hPP, hCC, hQQ, hID, hAH, hFU, hL, hjl, v2t, v4t, v5, v6t, v7, v8, q1, q2, hPW, List.append, List.toList_toArray]; rfl)); (try kernel_rfl); (try (focus (first | exact True.intro | ((try simp only [JS, Nat.zero_add, implies_true, forall_const, shaped, shapedL, kndOf, ls_i64S', ls_i64S, ls_prS, ls_prS', ls_u8S, ls_u8S', ls_esS, ls_esS', ls_evtsS', ls_evtsS, ls_evtsS2, ls_length, evtOf_evtS, prc_eta, rul_eta, dnn_eta, iOf, capB, hjl, v2t, v4t, v5, v6t, v7, v8, q1, q2, hPW, List.append, List.toList_toArray]); (repeat' (first | exact True.intro | assumption | omega | apply And.intro | rfl | decide | intro _)); done) | ((try simp only [JS, implies_true, forall_const, shaped, shapedL, kndOf]); (repeat' (first | assumption | exact True.intro | omega | apply And.intro)); done))))) | fail)
      apply At.endsRet tab_ok (fn := Tryz.f8) (rs := [.tmp 2]) Anc.refl hro (Nat.le_of_ble_eq_true rfl) rfl
      · exact Vm.b18
      · exact Vm.b7
      · exact Vm.b8
      · rfl
      · exact Vm.b130
      · exact Vm.b10
      · exact fun β => rfl
      · exact Vm.b130
  · obtain ⟨H, hH⟩ : ∃ H, hE ⟨seed, AH, FU⟩ (foldD ⟨seed, AH, FU⟩ ⟨⟨ID, PP, CC, d, sq, QQ⟩, [], 0⟩ (L.take k0)).p (L.getD k0 ⟨0, 0, 0, 0, 0⟩) = H := ⟨_, rfl⟩
    have hHn := hk1
    rw [hH] at hHn
    have hD := eqD_zero

    refine litOkM (fn := Tryz.f8) 9 171 0 rfl rfl rfl rfl rfl (by simp only [StableL, Stable, hp, dnB, DnI.at_, dnS, dnR, pcS, i64S, prS, insS, sndsS, sndS, evtsS, evtS, prO, i64O, inO, evO_, cB, sB, u8S, esS, esA, HB.stable]; simp [HB.born]) rfl fun w0 M E hro => ?_
    repeat' (first | refine Ctl.h ?_ | ((with_reducible intro hif); first | (focus (cases hif; done)) | (simp only [JH] at hif; try (exfalso; omega)) | (try (exfalso; omega))) | ((first | ((with_reducible apply J22 (cSnF_ok k0) tab_ok); (· rfl)) | ((with_reducible apply J23 fol (cSnF_ok k0) tab_ok); (· rfl)) | with_reducible apply J24); (· (simp only [push_cast, ↓JP, Nat.reduceAdd, Nat.reduceEqDiff, Nat.reduceLT, Nat.reduceMul, Nat.reduceLeDiff, reduceCtorEq, reduceIte, ↓JK, cSnF, ↓evtS_sz, ↓evtS_ag, ↓evtS_pl, Nat.sub_zero, hPP, hCC, hQQ, hID, hAH, hFU, hL, hH, hHn, hD]; rfl)); (try kernel_rfl); (try exact Vm.b131)) | fail)
    apply At.endsRet tab_ok (fn := Tryz.f8) (rs := [.tmp 2]) Anc.refl hro (Nat.le_of_ble_eq_true rfl) rfl
    · exact Vm.b18
    · exact Vm.b7
    · exact Vm.b8
    · rfl
    · exact Vm.b130
    · exact Vm.b10
    · exact fun β => rfl
    · exact Vm.b130
end Go.Proofs.YtjliakjbdcplcaaGreat.Vm
end

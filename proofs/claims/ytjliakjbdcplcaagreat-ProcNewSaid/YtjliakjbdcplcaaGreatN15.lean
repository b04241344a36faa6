import Derived.Test.YtjliakjbdcplcaaGreatN5
import Derived.Test.YtjliakjbdcplcaaGreatN6
import Derived.Test.YtjliakjbdcplcaaGreatN7
import Derived.Test.YtjliakjbdcplcaaGreatN8
import Derived.Test.YtjliakjbdcplcaaGreatN9
import Derived.Test.YtjliakjbdcplcaaGreatN11
import Derived.Test.YtjliakjbdcplcaaGreatN12
import Derived.Test.YtjliakjbdcplcaaGreatN13
import Derived.Test.YtjliakjbdcplcaaGreatN14
section
namespace Go.Proofs.YtjliakjbdcplcaaGreat.Vm
theorem b112 {P : Prop} (h : P := by (repeat' (first | exact trivial | exact rfl | assumption | apply Stable.ite | apply And.intro | intro _ | (simp only [Stable, StableL, pcS, dnB, DnI.at_, dnS, dnR, i64S, prS, insS, sndsS, sndS, evtsS, evtS, prO, i64O, inO, evO_, cB, sB, HB.stable]; done)))) : P := h
theorem b113 {P : Prop} (h : P := by (repeat' (first | exact trivial | exact rfl | assumption | apply Stable.ite | apply And.intro | intro _ | (simp only [Stable, StableL, i64S, prS, insS, sndsS, sndS, prT, i64O, inO, prO, HB.stable]; done)))) : P := h
theorem b114 {P : Prop} (h : P := by (first | exact True.intro | ((try simp only [JS, implies_true, forall_const, shaped, shapedL, kndOf, ls_prS, ls_prS', ls_i64S', ls_i64S, ls_evtsS', ls_evtsS, ls_length, evtOf_evtS, prc_eta, iOf]); (repeat' (first | exact True.intro | assumption | omega | apply And.intro | rfl | decide | intro _)); done) | ((try simp only [JS, implies_true, forall_const, shaped, shapedL, kndOf]); (repeat' (first | assumption | exact True.intro | omega | apply And.intro)); done))) : P := h
theorem b115 {P : Prop} (h : P := by (simp only [push_cast, ↓JP, Nat.reduceAdd, Nat.reduceEqDiff, Nat.reduceLT, Nat.reduceMul, Nat.reduceLeDiff, reduceCtorEq, reduceIte, ↓JK, cO0, evm_ev, ↓evtS_sz, ↓evtS_ag, ↓evtS_pl, nav_evt, rul_eta, ls_zero, JB, dnS, dnR, dnB, evO_, dn0, hE0, ht]; rfl)) : P := h
theorem b116 {P : Prop} (h : P := by (first | exact True.intro | ((try simp only [JS, implies_true, forall_const, shaped, shapedL, kndOf, ls_prS, ls_prS', ls_i64S', ls_i64S, ls_evtsS', ls_evtsS, ls_length, evtOf_evtS, prc_eta, iOf]); (repeat' (first | exact True.intro | assumption | omega | apply And.intro | rfl | decide | intro _)); done) | ((try simp only [JS, implies_true, forall_const, shaped, shapedL, kndOf, inR, inN]); (repeat' (first | assumption | exact True.intro | omega | apply And.intro)); done))) : P := h
theorem b117 {P : Prop} (h : P := by (first | exact True.intro | ((try simp only [JS, implies_true, forall_const, shaped, shapedL, kndOf, ls_prS, ls_prS', ls_i64S', ls_i64S, ls_length, prc_eta, iOf]); (repeat' (first | exact True.intro | assumption | omega | apply And.intro | rfl | decide | intro _)); done) | ((try simp only [JS, implies_true, forall_const, shaped, shapedL, kndOf, inR, inN]); (repeat' (first | assumption | exact True.intro | omega | apply And.intro)); done))) : P := h
theorem b118 {P : Prop} (h : P := by (simp only [push_cast, ↓JP, Nat.reduceAdd, Nat.reduceEqDiff, Nat.reduceLT, Nat.reduceMul, Nat.reduceLeDiff, reduceCtorEq, reduceIte, ↓JK, JE, prc_eta, cNw28, sClI, sClN, sPRight, inR, inN, ls_zero_rep, prO, i64O, inO, pc0, h2, hr']; rfl)) : P := h
end Go.Proofs.YtjliakjbdcplcaaGreat.Vm
end
section
namespace Go.Proofs.YtjliakjbdcplcaaGreat.Vm
open Go.RowKit
set_option linter.unusedVariables false
set_option linter.unusedSimpArgs false
set_option maxRecDepth 100000
def donP (h : HM) (d : Nat) : Option (Dn × (Nat × Nat × Nat × Nat) × Prop) := match h d with
  | .own t v true => match dnI v with
    | some y => match (h y.i).val, (h y.c).val, (h y.q).val, h y.j with
      | some (.arr n1 5 f1), some (.arr n2 1 f2), some (.arr n3 1 f3), .own t4 (.arr n4 5 f4) false =>
        bif (Nat.beq t 82 && Nat.beq t4 29) && ((Nat.beq n1 y.n1 && Nat.beq n2 y.n2) && (Nat.beq n3 y.n3 && Nat.beq n4 y.n4)) then
          some (⟨⟨y.id, ls insOf n1 f1, ls iOf n2 f2, y.dr, y.sq, ls iOf n3 f3⟩, ls evtOf n4 f4, y.u⟩, (y.i, y.c, y.q, y.j), (∀ q, q < n1 → isIns (f1 q) = true) ∧ (∀ q, q < n2 → isI .i64 (f2 q) = true) ∧ (∀ q, q < n3 → isI .i64 (f3 q) = true) ∧ (∀ q, q < n4 → isEvt (f4 q) = true)) else none
      | _, _, _, _ => none
    | none => none
  | _ => none
theorem dnS_at {ρ : Nat → Nat} {D : Dn} {i c q j i' c' q' j' : Nat} (h1 : ρ i' = i) (h2 : ρ c' = c) (h3 : ρ q' = q) (h4 : ρ j' = j) : (dnS D i' c' q' j').ren ρ = dnS D i c q j := by
  simp only [dnS, dnR, SV.ren, renL, h1, h2, h3, h4]
theorem dnB_ren {ρ : Nat → Nat} {D : Dn} {i c q j i' c' q' j' : Nat} (h1 : ρ i' = i) (h2 : ρ c' = c) (h3 : ρ q' = q) (h4 : ρ j' = j) : (dnB D i' c' q' j').ren ρ = dnB D i c q j := by
  simp only [dnB, HB.ren, dnS_at h1 h2 h3 h4]
theorem dnB_st {h : HM} {D : Dn} {i c q j : Nat} (h1 : (h i).born = true) (h2 : (h c).born = true) (h3 : (h q).born = true) (h4 : (h j).born = true) : (dnB D i c q j).stable h := by
  simp [dnB, dnS, dnR, HB.stable, Stable, StableL, h1, h2, h3, h4]
theorem evO_ren {ρ : Nat → Nat} {l : List Evt} : (evO_ l).ren ρ = evO_ l := by
  simp only [evO_, HB.ren, SV.ren]; rw [evtsS_ren]
theorem evO_st {h : HM} {l : List Evt} : (evO_ l).stable h := fun q => evtsS_stable q
theorem donP_val {h : HM} {d : Nat} {D : Dn} {i c q j : Nat} {ok : Prop} (hp : donP h d = some (D, (i, c, q, j), ok)) :
    h d = dnB D i c q j ∧ ∃ f1 f2 f3 f4, (h i).val = some (.arr D.p.P.length 5 f1) ∧ (h c).val = some (.arr D.p.cells.length 1 f2) ∧ (h q).val = some (.arr D.p.ports.length 1 f3) ∧ h j = .own 29 (.arr D.sent.length 5 f4) false ∧
      D.p.P = ls insOf D.p.P.length f1 ∧ D.p.cells = ls iOf D.p.cells.length f2 ∧ D.p.ports = ls iOf D.p.ports.length f3 ∧ D.sent = ls evtOf D.sent.length f4 ∧
      (ok → (∀ q, q < D.p.P.length → isIns (f1 q) = true) ∧ (∀ q, q < D.p.cells.length → isI .i64 (f2 q) = true) ∧ (∀ q, q < D.p.ports.length → isI .i64 (f3 q) = true) ∧ (∀ q, q < D.sent.length → isEvt (f4 q) = true)) := by
  unfold donP at hp
  split at hp
  · rename_i t v hd
    split at hp
    · rename_i y hy
      split at hp
      · rename_i n1 f1 n2 f2 n3 f3 t4 n4 f4 h1 h2 h3 h4
        obtain ⟨hb, hs⟩ := bif_some hp
        simp only [Option.some.injEq, Prod.mk.injEq] at hs
        obtain ⟨rfl, ⟨rfl, rfl, rfl, rfl⟩, rfl⟩ := hs
        simp only [Bool.and_eq_true] at hb
        obtain ⟨⟨b1, b2⟩, ⟨b3, b4⟩, b5, b6⟩ := hb
        have b1 := Nat.eq_of_beq_eq_true b1
        have b2 := Nat.eq_of_beq_eq_true b2
        have b3 := Nat.eq_of_beq_eq_true b3
        have b4 := Nat.eq_of_beq_eq_true b4
        have b5 := Nat.eq_of_beq_eq_true b5
        have b6 := Nat.eq_of_beq_eq_true b6
        subst b1 b2
        have hv := dnI_val hy
        subst hv
        subst b3 b4 b5 b6
        refine ⟨by rw [hd]; simp only [dnB, dnS, DnI.v, ls_length], f1, f2, f3, f4, by rw [ls_length]; exact h1, by rw [ls_length]; exact h2, by rw [ls_length]; exact h3, by rw [ls_length]; exact h4, by dsimp only; rw [ls_length], by dsimp only; rw [ls_length], by dsimp only; rw [ls_length], by dsimp only; rw [ls_length], fun ok => by simpa only [ls_length] using ok⟩
      · cases hp
    · cases hp
  · cases hp
section
variable {ρ : Nat → Nat} {h h' : HM} {i n : Nat}
theorem bun_prD {P : List Ins} {f : Nat → SV} (hp : (h i).val = some (.arr P.length 5 f)) (hf : ∀ q, q < P.length → isIns (f q) = true) (hP : P = ls insOf P.length f) (e : h' i = h i) : Bun1 ρ (h' i) (.ro (.arr P.length 5 (prS P))) := by
  refine Fit.ro (u := .arr P.length 5 f) (by rw [e]; exact hp) (fun β => ?_) (fun n k f e => by simp only [SV.ren] at e; injection e with e1 e2 e3; subst e1 e2; exact ⟨_, rfl⟩)
  simp only [SV.ren]
  rw [prS_ren]
  refine arrCl fun q hq => ?_
  rw [isIns_cl (hf q hq)]
  unfold prS
  rw [isIns_cl (isIns_insS _), insOf_insS]
  conv => rhs; rw [hP]
  rw [ls_getD hq]
theorem bun_i64D {l : List Int} {f : Nat → SV} (hp : (h i).val = some (.arr l.length 1 f)) (hf : ∀ q, q < l.length → isI .i64 (f q) = true) (hl : l = ls iOf l.length f) (e : h' i = h i) : Bun1 ρ (h' i) (.ro (.arr l.length 1 (i64S l))) := by
  refine Fit.ro (u := .arr l.length 1 f) (by rw [e]; exact hp) (fun β => ?_) (fun n k f e => by simp only [SV.ren] at e; injection e with e1 e2 e3; subst e1 e2; exact ⟨_, rfl⟩)
  refine arrCl fun q hq => ?_
  rw [isI_cl (hf q hq)]
  unfold i64S
  conv => rhs; rw [hl]
  rw [ls_getD hq]; rfl
theorem bun_evD {l : List Evt} {f : Nat → SV} (hp : h i = .own 29 (.arr l.length 5 f) false) (hf : ∀ q, q < l.length → isEvt (f q) = true) (hl : l = ls evtOf l.length f) (e : h' i = h i) : Bun1 ρ (h' i) (evO_ l) := by
  show Less (h' i) (.own 29 (.arr l.length 5 fun q => (evtsS l q).ren ρ) false)
  rw [e, hp, evtsS_ren]
  refine .val (fun β => arrCl fun q hq => ?_) (fun n k f e => by injection e with e1 e2 e3; subst e1 e2; exact ⟨_, rfl⟩) (fun n k f e => by injection e with e1 e2 e3; subst e1 e2; exact ⟨_, rfl⟩)
  rw [isEvt_cl (hf q hq)]
  unfold evtsS
  rw [isEvt_cl (isEvt_evtS _), evtOf_evtS]
  conv => rhs; rw [hl]
  rw [ls_getD hq]
end
theorem han_err (r : Rul) (D : Dn) (e : Evt) (hG : HG r D.p e) (hs : D.sent.length ≤ 1000000) (hu : D.used ≤ 1000000000) (hE0 : hE r D.p e ≠ 0) : LitOk Tryz.prog 96 [.ptr 1 [], .agg [.int .u64 r.seed, .int .i64 r.ahead, .int .i64 r.fuel], evtS e]
    [.gone, dnB D 2 3 4 5, .ro (.arr D.p.P.length 5 (prS D.p.P)), .ro (.arr D.p.cells.length 1 (i64S D.p.cells)), .ro (.arr D.p.ports.length 1 (i64S D.p.ports)), evO_ D.sent]
    (.int .i64 (hE r D.p e)) [.gone, dnB D 2 3 4 5, .gone, .gone, .gone, evO_ D.sent] := by
  unfold hE at hE0 ⊢
  by_cases hb : (hR r D.p e).bad = 0
  · rw [if_neg (fun h => h hb)] at hE0 ⊢
    cases hg : (hR r D.p e).s.sends.any (gonB D.p.ports)
    · rw [if_neg (show ¬ (goneB D.p.ports (hR r D.p e).s.sends = true) by rw [show goneB D.p.ports (hR r D.p e).s.sends = false from hg]; exact Bool.noConfusion)] at hE0 ⊢
      by_cases hq : 4294967296 < D.p.seq + (hR r D.p e).s.sends.length
      · rw [if_pos hq]; exact han_seq r D e hG hs hu hb hg hq
      · rw [if_neg hq] at hE0; exact absurd rfl hE0
    · rw [if_pos (show goneB D.p.ports (hR r D.p e).s.sends = true from hg)]
      exact han_gone r D e hG hs hu hb hg
  · rw [if_pos hb]; exact han_bad r D e hG hs hu hb
theorem hE_zero {r : Rul} {p : Prc} {e : Evt} (h : hE r p e = 0) : (hR r p e).bad = 0 ∧ (hR r p e).s.sends.any (gonB p.ports) = false ∧ ¬ 4294967296 < p.seq + (hR r p e).s.sends.length := by
  unfold hE at h
  by_cases hb : (hR r p e).bad = 0
  · rw [if_neg (fun h => h hb)] at h
    cases hg : (hR r p e).s.sends.any (gonB p.ports)
    · rw [if_neg (show ¬ (goneB p.ports (hR r p e).s.sends = true) by rw [show goneB p.ports (hR r p e).s.sends = false from hg]; exact Bool.noConfusion)] at h
      by_cases hq : 4294967296 < p.seq + (hR r p e).s.sends.length
      · rw [if_pos hq] at h; cases h
      · exact ⟨hb, rfl, hq⟩
    · rw [if_pos (show goneB p.ports (hR r p e).s.sends = true from hg)] at h; cases h
  · rw [if_pos hb] at h; exact absurd h hb
def rHaB : Spec := fun args h m => match args with
  | [.ptr d [], .agg [a, b, k], e] => match donP h d with
    | some (D, (i, c, q, j), ok) => bif ((isI .u64 a && isI .i64 b) && (isI .i64 k && isEvt e)) && nodupN [0, d, i, c, q, j] then some (ok ∧ HG ⟨iOf a, iOf b, iOf k⟩ D.p (evtOf e) ∧ D.sent.length ≤ 1000000 ∧ D.used ≤ 1000000000 ∧ hE ⟨iOf a, iOf b, iOf k⟩ D.p (evtOf e) ≠ 0, .int .i64 (hE ⟨iOf a, iOf b, iOf k⟩ D.p (evtOf e)), [d, i, c, q, j], [(d, dnB D i c q j), (j, evO_ D.sent)]) else none
    | none => none
  | _ => none
theorem rHaB_ok : CallOk Tryz.prog 96 rHaB := by
  refine ⟨named_spec (by kernel_rfl), fun args h m c v rd wr hs hm hc w0 M β h' w R hrd hwr hst => ?_⟩
  unfold rHaB at hs
  split at hs
  · rename_i d a b k e
    split at hs
    · rename_i D i c q j ok hdp
      obtain ⟨hb, hs⟩ := bif_some hs
      simp only [Option.some.injEq, Prod.mk.injEq] at hs
      obtain ⟨rfl, rfl, rfl, rfl⟩ := hs
      simp only [Bool.and_eq_true] at hb
      obtain ⟨⟨⟨b1, b2⟩, b3, b4⟩, hnd⟩ := hb
      obtain ⟨k0, k1, k2, k3, k4⟩ := hc
      obtain ⟨hd, f1, f2, f3, f4, g1, g2, g3, g4, e1, e2, e3, e4, hok⟩ := donP_val hdp
      obtain ⟨o1, o2, o3, o4⟩ := hok k0
      have ea : denL β [.ptr d [], .agg [a, b, k], e] = denL β [.ptr d [], .agg [.int .u64 (iOf a), .int .i64 (iOf b), .int .i64 (iOf k)], evtS (evtOf e)] := by
        simp only [denL, aggDen, intDen, isI_den b1, isI_den b2, isI_den b3]
        rw [den_evtOf b4, den_evtS]
      rw [ea]
      exact bun_ok (h := h) (m := m) [0, d, i, c, q, j] (han_err ⟨iOf a, iOf b, iOf k⟩ D (evtOf e) k1 k2 k3 k4) R rfl (by simp) rfl rfl hnd
        ⟨Fit.gone (by rw [R.nil0]; rfl), (by
          show Less (h' d) ((dnB D 2 3 4 5).ren _)
          rw [hrd d (by simp), hd, dnB_ren (i := i) (c := c) (q := q) (j := j) rfl rfl rfl rfl]; exact .same _), bun_prD g1 o1 e1 (hrd i (by simp)), bun_i64D g2 o2 e2 (hrd c (by simp)), bun_i64D g3 o3 e3 (hrd q (by simp)), bun_evD g4 o4 e4 (hrd j (by simp)), trivial⟩ hm
        (fun p hp => by cases hp) (by simp) rfl
        ⟨trivial, dnB_st rfl rfl rfl rfl, (fun q => prS_stable q), (fun q => i64S_stable q), (fun q => i64S_stable q), evO_st, trivial⟩ ⟨rfl, by simp [Stable, StableL], evtS_stable _, trivial⟩
        ⟨trivial, dnB_st rfl rfl rfl rfl, (fun q => prS_stable q), (fun q => i64S_stable q), (fun q => i64S_stable q), evO_st, trivial⟩ trivial rfl rfl (by
          show [(d, (dnB D 2 3 4 5).ren _), (j, (evO_ D.sent).ren _)] = _
          rw [dnB_ren (i := i) (c := c) (q := q) (j := j) rfl rfl rfl rfl, evO_ren])
    · cases hs
  · cases hs
def rHaG : Spec := fun args h m => match args with
  | [.ptr d [], .agg [a, b, k], e] => match donP h d with
    | some (D, (i, c, q, j), ok) => bif ((isI .u64 a && isI .i64 b) && (isI .i64 k && isEvt e)) && nodupN [0, d, i, c, q, j] then some (ok ∧ HG ⟨iOf a, iOf b, iOf k⟩ D.p (evtOf e) ∧ D.sent.length ≤ 1000000 ∧ D.used ≤ 1000000000 ∧ hE ⟨iOf a, iOf b, iOf k⟩ D.p (evtOf e) = 0, .int .i64 0, [d, i, c, q, j], [(d, dnB (hS ⟨iOf a, iOf b, iOf k⟩ D (evtOf e)) i m q (m + 1)), (j, .gone), (m, cB (hR ⟨iOf a, iOf b, iOf k⟩ D.p (evtOf e)).s), (m + 1, evO_ (hS ⟨iOf a, iOf b, iOf k⟩ D (evtOf e)).sent)]) else none
    | none => none
  | _ => none
theorem rHaG_ok : CallOk Tryz.prog 96 rHaG := by
  refine ⟨named_spec (by kernel_rfl), fun args h m c v rd wr hs hm hc w0 M β h' w R hrd hwr hst => ?_⟩
  unfold rHaG at hs
  split at hs
  · rename_i d a b k e
    split at hs
    · rename_i D i c q j ok hdp
      obtain ⟨hb, hs⟩ := bif_some hs
      simp only [Option.some.injEq, Prod.mk.injEq] at hs
      obtain ⟨rfl, rfl, rfl, rfl⟩ := hs
      simp only [Bool.and_eq_true] at hb
      obtain ⟨⟨⟨b1, b2⟩, b3, b4⟩, hnd⟩ := hb
      obtain ⟨k0, k1, k2, k3, k4⟩ := hc
      obtain ⟨hd, f1, f2, f3, f4, g1, g2, g3, g4, e1, e2, e3, e4, hok⟩ := donP_val hdp
      obtain ⟨o1, o2, o3, o4⟩ := hok k0
      have ea : denL β [.ptr d [], .agg [a, b, k], e] = denL β [.ptr d [], .agg [.int .u64 (iOf a), .int .i64 (iOf b), .int .i64 (iOf k)], evtS (evtOf e)] := by
        simp only [denL, aggDen, intDen, isI_den b1, isI_den b2, isI_den b3]
        rw [den_evtOf b4, den_evtS]
      rw [ea]
      exact bun_ok (h := h) (m := m) [0, d, i, c, q, j] (han_ok ⟨iOf a, iOf b, iOf k⟩ D (evtOf e) k1 k2 k3 (hE_zero k4).1 (hE_zero k4).2.1 (hE_zero k4).2.2) R rfl (by simp) rfl rfl hnd
        ⟨Fit.gone (by rw [R.nil0]; rfl), (by
          show Less (h' d) ((dnB D 2 3 4 5).ren _)
          rw [hrd d (by simp), hd, dnB_ren (i := i) (c := c) (q := q) (j := j) rfl rfl rfl rfl]; exact .same _), bun_prD g1 o1 e1 (hrd i (by simp)), bun_i64D g2 o2 e2 (hrd c (by simp)), bun_i64D g3 o3 e3 (hrd q (by simp)), bun_evD g4 o4 e4 (hrd j (by simp)), trivial⟩ hm
        (fun p hp => by
          simp only [newB, List.drop, List.length_cons, List.length_nil, List.mem_cons, List.not_mem_nil, or_false] at hp
          rcases hp with rfl | rfl
          · exact hwr (m, cB (hR ⟨iOf a, iOf b, iOf k⟩ D.p (evtOf e)).s) (by simp)
          · exact hwr (m + 1, evO_ (hS ⟨iOf a, iOf b, iOf k⟩ D (evtOf e)).sent) (by simp)) (by simp) rfl
        ⟨trivial, dnB_st rfl rfl rfl rfl, (fun q => prS_stable q), (fun q => i64S_stable q), (fun q => i64S_stable q), evO_st, trivial⟩ ⟨rfl, by simp [Stable, StableL], evtS_stable _, trivial⟩
        ⟨trivial, dnB_st rfl rfl rfl rfl, (fun q => prS_stable q), (fun q => i64S_stable q), (fun q => i64S_stable q), trivial, cB_st, evO_st, trivial⟩ trivial rfl rfl (by
          show [(d, (dnB (hS ⟨iOf a, iOf b, iOf k⟩ D (evtOf e)) 2 6 4 7).ren _), (j, HB.gone.ren _), (m, (cB (hR ⟨iOf a, iOf b, iOf k⟩ D.p (evtOf e)).s).ren _), (m + 1, (evO_ (hS ⟨iOf a, iOf b, iOf k⟩ D (evtOf e)).sent).ren _)] = _
          rw [dnB_ren (i := i) (c := m) (q := q) (j := m + 1) rfl (by simp [rhoL]) rfl (by simp [rhoL]), evO_ren, cB_ren]; rfl)
    · cases hs
  · cases hs
end Go.Proofs.YtjliakjbdcplcaaGreat.Vm
end

section
namespace Go.Proofs.YtjliakjbdcplcaaGreat.Vm
open Go.RowKit
attribute [local push_cast] runR opG gtmp gval gus opX tmpsOf tm tmO tmP restr look look2 tab tys zs ets eqB eqBL allB numOf ieq Int.cast_ofNat_Int Int.ofNat_zero beq_true beq_false frameOf ev evL ofV opV loadV noW pushF wrsL setH allBorn allGone HB.born HB.isGone HB.val SV.plain dstOk hp nav fitsT SV.size sizeL SV.isAgg TK.size TK.agg bin binE binN binI arN arI cmpN cmpI keq kn narrow callV storeV setp fillV buildV buildSliceV makeV sliceV appendV appendFV slice3V copyV List.isEmpty_nil srcV evO asN ite_t ite_f ite_bool ite_int ite_nat maxV v_beq v_ble v_blt cond_true cond_false List.getElem?_cons_zero List.getElem?_cons_succ List.getD_cons_zero List.getD_cons_succ List.getD_nil List.length_cons List.length_nil List.take_succ_cons List.take_zero List.set_cons_zero List.set_cons_succ List.cons_append List.nil_append List.append_assoc List.replicate_succ List.replicate_zero Nat.zero_add Nat.add_zero decide_true decide_false Bool.true_and Bool.and_true Bool.false_and Bool.and_false Bool.true_or Bool.or_true Bool.false_or Bool.or_false beq_self_eq_true Bool.or_self Nat.lt_irrefl Nat.not_lt_zero Nat.le_refl Option.getD_some Option.getD_none BEq.rfl Bool.not_true Bool.not_false Bool.cond_true_left Bool.cond_false_right prS sndsS i64S nav_ins nav_ins0 nav_ins1 nav_ins2 nav_ins3 nav_ins4 nav_snd nav_snd0 nav_snd1 nav_snd2 isIns_insS insOf_insS isSnd_sndS sndOf_sndS isI_int isI_nat iOf JE prc_eta sPCheck sTakes sPCopy pcS prO i64O inO rHaB rHaG donP dnI isEvt_evtS evtOf_evtS ls_evtsS ls_evtsS' nodupN memN inR inN
set_option linter.unusedVariables false
set_option linter.unusedSimpArgs false
set_option maxRecDepth 100000
set_option maxHeartbeats 4000000
def dn0 : SV := .agg [.agg [.nat .i64 0, .sl 0 0 [] 0 0 0 (some 0), .sl 0 0 [] 0 0 0 (some 0), .nat .i64 0, .nat .i64 0, .sl 0 0 [] 0 0 0 (some 0)], .sl 0 0 [] 0 0 0 (some 0), .nat .i64 0]
def oneE (r : Rul) (p : Prc) (e : Evt) : Int := if procE r p ≠ 0 then procE r p else if takesB p e = false then 282 else hE r p e
theorem procE_zero {r : Rul} {p : Prc} (h : procE r p = 0) : r.rightB = true ∧ p.rightB = true := by
  unfold procE at h
  cases hr : r.rightB
  · rw [if_pos hr] at h; cases h
  · rw [if_neg (by rw [hr]; exact Bool.noConfusion)] at h
    cases hp : p.rightB
    · rw [if_pos hp] at h; cases h
    · exact ⟨rfl, rfl⟩
theorem takes_key {p : Prc} {e : Evt} (h : takesB p e = true) : 0 ≤ e.time ∧ e.time ≤ 281474976710656 := by
  unfold takesB at h
  rw [Bool.and_eq_true] at h
  have := of_decide_eq_true (show decide _ = true from h.1)
  exact ⟨this.1, this.2.1⟩
theorem HG.of {r : Rul} {p : Prc} {e : Evt} (h : procE r p = 0) (ht : takesB p e = true) (hok : ∀ x ∈ p.P, x.ok) : HG r p e := ⟨(procE_zero h).1, (procE_zero h).2, hok, (takes_key ht).1, (takes_key ht).2⟩
theorem rul_eta (r : Rul) : Rul.mk r.seed r.ahead r.fuel = r := rfl
theorem nil_cl {β : Env} {x : Nat} (h0 : β 0 = (none, 0)) (hx : β x = (none, 0)) (k : Nat) : (SV.sl x x [] k 0 0 none).den β = (SV.sl 0 0 [] 0 0 0 (some 0)).den β := by simp [SV.den, h0, hx]
def cO0 : FuncId → Option Spec := look2 [(30, sPCheck), (74, sTakes), (71, sPCopy)]
theorem cO0_ok : ∀ f S, cO0 f = some S → CallOk Tryz.prog f S := allOk_spec ⟨sPCheck_ok, sTakes_ok, sPCopy_ok, trivial⟩
def cOB : FuncId → Option Spec := look2 [(30, sPCheck), (74, sTakes), (71, sPCopy), (96, rHaB)]
theorem cOB_ok : ∀ f S, cOB f = some S → CallOk Tryz.prog f S := allOk_spec ⟨sPCheck_ok, sTakes_ok, sPCopy_ok, rHaB_ok, trivial⟩
def cOG : FuncId → Option Spec := look2 [(30, sPCheck), (74, sTakes), (71, sPCopy), (96, rHaG)]
theorem cOG_ok : ∀ f S, cOG f = some S → CallOk Tryz.prog f S := allOk_spec ⟨sPCheck_ok, sTakes_ok, sPCopy_ok, rHaG_ok, trivial⟩
theorem evm_ev (i : Evt) (a : Bool → SV → Option (Prop × SV)) (b : SV → Option (Prop × SV)) (c : Unit → Option (Prop × SV)) : ev.match_1 (fun _ => Option (Prop × SV)) (some (evtS i)) a b c = b (evtS i) := rfl
theorem evtS_sz (e : Evt) : (evtS e).size = 5 := rfl
theorem evtS_ag (e : Evt) : (evtS e).isAgg = true := rfl
theorem evtS_pl (e : Evt) : (evtS e).plain = true := rfl
theorem nav_evt (e : Evt) : nav (evtS e) [] = some (True, evtS e) := rfl
theorem one_chk (r : Rul) (p : Prc) (e : Evt) (p1 p2 p3 : Nat) (hok : ∀ x ∈ p.P, x.ok) (hn : p.P.length ≤ 1000000) (hc : p.cells.length ≤ 1000000) (hpo : p.ports.length ≤ 1000000) (hE0 : procE r p ≠ 0) : LitOk Tryz.prog 59 [.agg [.int .u64 r.seed, .int .i64 r.ahead, .int .i64 r.fuel], .agg [.int .i64 p.id, .sl 1 2 [] 5 0 p.P.length (some p1), .sl 3 4 [] 1 0 p.cells.length (some p2), .int .i64 p.draws, .int .i64 p.seq, .sl 5 6 [] 1 0 p.ports.length (some p3)], evtS e]
    [.gone, .gone, .ro (.arr p.P.length 5 (prS p.P)), .gone, .ro (.arr p.cells.length 1 (i64S p.cells)), .gone, .ro (.arr p.ports.length 1 (i64S p.ports))]
    (.tup [dn0, .int .i64 (procE r p)]) [.gone] := by

  refine litOkM (fn := Tryz.f59) 7 38 0 rfl rfl rfl rfl rfl (by simp only [StableL, Stable, hp, pcS, dnB, DnI.at_, dnS, dnR, i64S, prS, insS, sndsS, sndS, evtsS, evtS, prO, i64O, inO, evO_, cB, sB, HB.stable]; simp [HB.born, evtS]) rfl fun w0 M E hro => ?_
  repeat' (first | refine Ctl.h ?_ | ((with_reducible intro hif); first | (focus (cases hif; done)) | (simp only [JH] at hif; try (exfalso; omega)) | (try (exfalso; omega))) | ((first | ((with_reducible apply J22 cO0_ok tab_ok); (· rfl)) | ((with_reducible apply J23 fol cO0_ok tab_ok); (· rfl)) | with_reducible apply J24); (· (simp only [push_cast, ↓JP, Nat.reduceAdd, Nat.reduceEqDiff, Nat.reduceLT, Nat.reduceMul, Nat.reduceLeDiff, reduceCtorEq, reduceIte, ↓JK, cO0, evm_ev, ↓evtS_sz, ↓evtS_ag, ↓evtS_pl, nav_evt, hE0]; rfl)); (try kernel_rfl); (try exact Vm.b114)) | fail)
  apply At.endsRet tab_ok (fn := Tryz.f59) (rs := [.cell 6 82, .tmp 7]) Anc.refl hro (Nat.le_of_ble_eq_true rfl) rfl
  · exact Vm.b11
  · exact Vm.b9
  · exact Vm.b6
  · rfl
  · exact Vm.b112
  · exact Vm.b10
  · exact fun β => rfl
  · exact Vm.b112
theorem one_tak (r : Rul) (p : Prc) (e : Evt) (p1 p2 p3 : Nat) (hok : ∀ x ∈ p.P, x.ok) (hn : p.P.length ≤ 1000000) (hc : p.cells.length ≤ 1000000) (hpo : p.ports.length ≤ 1000000) (hE0 : procE r p = 0) (ht : takesB p e = false) : LitOk Tryz.prog 59 [.agg [.int .u64 r.seed, .int .i64 r.ahead, .int .i64 r.fuel], .agg [.int .i64 p.id, .sl 1 2 [] 5 0 p.P.length (some p1), .sl 3 4 [] 1 0 p.cells.length (some p2), .int .i64 p.draws, .int .i64 p.seq, .sl 5 6 [] 1 0 p.ports.length (some p3)], evtS e]
    [.gone, .gone, .ro (.arr p.P.length 5 (prS p.P)), .gone, .ro (.arr p.cells.length 1 (i64S p.cells)), .gone, .ro (.arr p.ports.length 1 (i64S p.ports))]
    (.tup [dn0, .int .i64 282]) [.gone] := by

  refine litOkM (fn := Tryz.f59) 7 38 0 rfl rfl rfl rfl rfl (by simp only [StableL, Stable, hp, pcS, dnB, DnI.at_, dnS, dnR, i64S, prS, insS, sndsS, sndS, evtsS, evtS, prO, i64O, inO, evO_, cB, sB, HB.stable]; simp [HB.born, evtS]) rfl fun w0 M E hro => ?_
  repeat' (first | refine Ctl.h ?_ | ((with_reducible intro hif); first | (focus (cases hif; done)) | (simp only [JH] at hif; try (exfalso; omega)) | (try (exfalso; omega))) | ((first | ((with_reducible apply J22 cO0_ok tab_ok); (· rfl)) | ((with_reducible apply J23 fol cO0_ok tab_ok); (· rfl)) | with_reducible apply J24); (· (simp only [push_cast, ↓JP, Nat.reduceAdd, Nat.reduceEqDiff, Nat.reduceLT, Nat.reduceMul, Nat.reduceLeDiff, reduceCtorEq, reduceIte, ↓JK, cO0, evm_ev, ↓evtS_sz, ↓evtS_ag, ↓evtS_pl, nav_evt, hE0, ht]; rfl)); (try kernel_rfl); (try exact Vm.b114)) | fail)
  apply At.endsRet tab_ok (fn := Tryz.f59) (rs := [.cell 6 82, .tmp 7]) Anc.refl hro (Nat.le_of_ble_eq_true rfl) rfl
  · exact Vm.b11
  · exact Vm.b9
  · exact Vm.b6
  · rfl
  · exact Vm.b112
  · exact Vm.b10
  · exact fun β => rfl
  · exact Vm.b112
theorem one_bad (r : Rul) (p : Prc) (e : Evt) (p1 p2 p3 : Nat) (hok : ∀ x ∈ p.P, x.ok) (hn : p.P.length ≤ 1000000) (hc : p.cells.length ≤ 1000000) (hpo : p.ports.length ≤ 1000000) (hE0 : procE r p = 0) (ht : takesB p e = true) (hb : hE r p e ≠ 0) : LitOk Tryz.prog 59 [.agg [.int .u64 r.seed, .int .i64 r.ahead, .int .i64 r.fuel], .agg [.int .i64 p.id, .sl 1 2 [] 5 0 p.P.length (some p1), .sl 3 4 [] 1 0 p.cells.length (some p2), .int .i64 p.draws, .int .i64 p.seq, .sl 5 6 [] 1 0 p.ports.length (some p3)], evtS e]
    [.gone, .gone, .ro (.arr p.P.length 5 (prS p.P)), .gone, .ro (.arr p.cells.length 1 (i64S p.cells)), .gone, .ro (.arr p.ports.length 1 (i64S p.ports))]
    (.tup [dn0, .int .i64 (hE r p e)]) [.gone] := by
  have hG := HG.of hE0 ht hok
  have h5 : (0 : Nat) ≤ 1000000 := by decide
  have h6 : (0 : Nat) ≤ 1000000000 := by decide

  refine litOkM (fn := Tryz.f59) 7 38 0 rfl rfl rfl rfl rfl (by simp only [StableL, Stable, hp, pcS, dnB, DnI.at_, dnS, dnR, i64S, prS, insS, sndsS, sndS, evtsS, evtS, prO, i64O, inO, evO_, cB, sB, HB.stable]; simp [HB.born, evtS]) rfl fun w0 M E hro => ?_
  repeat' (first | refine Ctl.h ?_ | ((with_reducible intro hif); first | (focus (cases hif; done)) | (simp only [JH] at hif; try (exfalso; omega)) | (try (exfalso; omega))) | ((first | ((with_reducible apply J22 cO0_ok tab_ok); (· rfl)) | ((with_reducible apply J23 fol cO0_ok tab_ok); (· rfl)) | with_reducible apply J24); (· exact Vm.b115); (try kernel_rfl); (try exact Vm.b114)) | fail)
  refine WF.nilIn 29 5 (evtsS []) 14 82 (.agg [.agg [.int .i64 p.id, .sl 11 11 [] 5 0 p.P.length none, .sl 12 12 [] 1 0 p.cells.length none, .int .i64 p.draws, .int .i64 p.seq, .sl 13 13 [] 1 0 p.ports.length none], .sl 0 0 [] 0 0 0 (some 0), .nat .i64 0]) (dnR p.id p.draws p.seq p.P.length p.cells.length p.ports.length 0 0 11 12 13 15) true (fun _ q => evtsS_stable q) rfl (fun β b0 hβ => by
      have e := nil_cl (k := 5) b0 (show β 15 = (none, 0) from hβ)
      simp only [dnR, SV.cl, SV.den, denL] at e ⊢
      rw [e]) (fun h hb => by
      have k11 := hb 11 (show (11 : Nat) ≤ 15 by decide)
      have k12 := hb 12 (show (12 : Nat) ≤ 15 by decide)
      have k13 := hb 13 (show (13 : Nat) ≤ 15 by decide)
      have k15 := hb 15 (show (15 : Nat) ≤ 15 by decide)
      simp [dnR, Stable, StableL, k11, k12, k13, k15]) rfl (fun n k f e => by cases e) (fun n k f e => by cases e) rfl ?_
  simp only [setH, List.cons_append, List.nil_append]

  repeat' (first | refine Ctl.h ?_ | ((with_reducible intro hif); first | (focus (cases hif; done)) | (simp only [JH] at hif; try (exfalso; omega)) | (try (exfalso; omega))) | ((first | ((with_reducible apply J22 cOB_ok tab_ok); (· rfl)) | ((with_reducible apply J23 fol cOB_ok tab_ok); (· rfl)) | with_reducible apply J24); (· (simp only [push_cast, ↓JP, Nat.reduceAdd, Nat.reduceEqDiff, Nat.reduceLT, Nat.reduceMul, Nat.reduceLeDiff, reduceCtorEq, reduceIte, ↓JK, cOB, evm_ev, ↓evtS_sz, ↓evtS_ag, ↓evtS_pl, nav_evt, rul_eta, ls_zero, JB, dnS, dnR, dnB, evO_, dn0, hb]; rfl)); (try kernel_rfl); (try exact Vm.b114)) | fail)
  apply At.endsRet tab_ok (fn := Tryz.f59) (rs := [.cell 6 82, .tmp 7]) Anc.refl hro (Nat.le_of_ble_eq_true rfl) rfl
  · exact Vm.b11
  · exact Vm.b9
  · exact Vm.b6
  · rfl
  · exact Vm.b112
  · exact Vm.b10
  · exact fun β => rfl
  · exact Vm.b112
theorem one_ok (r : Rul) (p : Prc) (e : Evt) (p1 p2 p3 : Nat) (hok : ∀ x ∈ p.P, x.ok) (hn : p.P.length ≤ 1000000) (hc : p.cells.length ≤ 1000000) (hpo : p.ports.length ≤ 1000000) (hE0 : procE r p = 0) (ht : takesB p e = true) (hb : hE r p e = 0) : LitOk Tryz.prog 59 [.agg [.int .u64 r.seed, .int .i64 r.ahead, .int .i64 r.fuel], .agg [.int .i64 p.id, .sl 1 2 [] 5 0 p.P.length (some p1), .sl 3 4 [] 1 0 p.cells.length (some p2), .int .i64 p.draws, .int .i64 p.seq, .sl 5 6 [] 1 0 p.ports.length (some p3)], evtS e]
    [.gone, .gone, .ro (.arr p.P.length 5 (prS p.P)), .gone, .ro (.arr p.cells.length 1 (i64S p.cells)), .gone, .ro (.arr p.ports.length 1 (i64S p.ports))]
    (.tup [dnS (hS r ⟨p, [], 0⟩ e) 7 8 9 10, .int .i64 0]) [.gone, .gone, .gone, .gone, .gone, .gone, .gone, prO p.P, cB (hR r p e).s, inO p.ports, evO_ (hS r ⟨p, [], 0⟩ e).sent] := by
  have hG := HG.of hE0 ht hok
  have h5 : (0 : Nat) ≤ 1000000 := by decide
  have h6 : (0 : Nat) ≤ 1000000000 := by decide

  refine litOkM (fn := Tryz.f59) 7 38 0 rfl rfl rfl rfl rfl (by simp only [StableL, Stable, hp, pcS, dnB, DnI.at_, dnS, dnR, i64S, prS, insS, sndsS, sndS, evtsS, evtS, prO, i64O, inO, evO_, cB, sB, HB.stable]; simp [HB.born, evtS]) rfl fun w0 M E hro => ?_
  repeat' (first | refine Ctl.h ?_ | ((with_reducible intro hif); first | (focus (cases hif; done)) | (simp only [JH] at hif; try (exfalso; omega)) | (try (exfalso; omega))) | ((first | ((with_reducible apply J22 cO0_ok tab_ok); (· rfl)) | ((with_reducible apply J23 fol cO0_ok tab_ok); (· rfl)) | with_reducible apply J24); (· exact Vm.b115); (try kernel_rfl); (try exact Vm.b114)) | fail)
  refine WF.nilIn 29 5 (evtsS []) 14 82 (.agg [.agg [.int .i64 p.id, .sl 11 11 [] 5 0 p.P.length none, .sl 12 12 [] 1 0 p.cells.length none, .int .i64 p.draws, .int .i64 p.seq, .sl 13 13 [] 1 0 p.ports.length none], .sl 0 0 [] 0 0 0 (some 0), .nat .i64 0]) (dnR p.id p.draws p.seq p.P.length p.cells.length p.ports.length 0 0 11 12 13 15) true (fun _ q => evtsS_stable q) rfl (fun β b0 hβ => by
      have e := nil_cl (k := 5) b0 (show β 15 = (none, 0) from hβ)
      simp only [dnR, SV.cl, SV.den, denL] at e ⊢
      rw [e]) (fun h hb => by
      have k11 := hb 11 (show (11 : Nat) ≤ 15 by decide)
      have k12 := hb 12 (show (12 : Nat) ≤ 15 by decide)
      have k13 := hb 13 (show (13 : Nat) ≤ 15 by decide)
      have k15 := hb 15 (show (15 : Nat) ≤ 15 by decide)
      simp [dnR, Stable, StableL, k11, k12, k13, k15]) rfl (fun n k f e => by cases e) (fun n k f e => by cases e) rfl ?_
  simp only [setH, List.cons_append, List.nil_append]

  repeat' (first | refine Ctl.h ?_ | ((with_reducible intro hif); first | (focus (cases hif; done)) | (simp only [JH] at hif; try (exfalso; omega)) | (try (exfalso; omega))) | ((first | ((with_reducible apply J22 cOG_ok tab_ok); (· rfl)) | ((with_reducible apply J23 fol cOG_ok tab_ok); (· rfl)) | with_reducible apply J24); (· (simp only [push_cast, ↓JP, Nat.reduceAdd, Nat.reduceEqDiff, Nat.reduceLT, Nat.reduceMul, Nat.reduceLeDiff, reduceCtorEq, reduceIte, ↓JK, cOG, evm_ev, ↓evtS_sz, ↓evtS_ag, ↓evtS_pl, nav_evt, rul_eta, ls_zero, JB, dnS, dnR, dnB, evO_, dn0, hb]; rfl)); (try kernel_rfl); (try exact Vm.b114)) | fail)
  apply At.endsPick [0, 1, 2, 3, 4, 5, 6, 11, 16, 13, 17] tab_ok (fn := Tryz.f59) (rs := [.cell 6 82, .tmp 7]) Anc.refl hro (Nat.le_of_ble_eq_true rfl) rfl
  · exact Vm.b11
  · exact Vm.b26
  · rfl
  · rfl
  · rfl
  · exact Vm.b40
  · rfl
  · exact Vm.b112
  · exact Vm.b10
  · exact fun β => rfl
  · exact Vm.b112
theorem one_err (r : Rul) (p : Prc) (e : Evt) (p1 p2 p3 : Nat) (hok : ∀ x ∈ p.P, x.ok) (hn : p.P.length ≤ 1000000) (hc : p.cells.length ≤ 1000000) (hpo : p.ports.length ≤ 1000000) (h : oneE r p e ≠ 0) : LitOk Tryz.prog 59 [.agg [.int .u64 r.seed, .int .i64 r.ahead, .int .i64 r.fuel], .agg [.int .i64 p.id, .sl 1 2 [] 5 0 p.P.length (some p1), .sl 3 4 [] 1 0 p.cells.length (some p2), .int .i64 p.draws, .int .i64 p.seq, .sl 5 6 [] 1 0 p.ports.length (some p3)], evtS e]
    [.gone, .gone, .ro (.arr p.P.length 5 (prS p.P)), .gone, .ro (.arr p.cells.length 1 (i64S p.cells)), .gone, .ro (.arr p.ports.length 1 (i64S p.ports))] (.tup [dn0, .int .i64 (oneE r p e)]) [.gone] := by
  unfold oneE at h ⊢
  by_cases h1 : procE r p = 0
  · rw [if_neg (fun h => h h1)] at h ⊢
    cases h2 : takesB p e
    · rw [if_pos rfl]; exact one_tak r p e p1 p2 p3 hok hn hc hpo h1 h2
    · rw [h2] at h
      rw [if_neg Bool.noConfusion] at h ⊢
      exact one_bad r p e p1 p2 p3 hok hn hc hpo h1 h2 h
  · rw [if_pos h1]; exact one_chk r p e p1 p2 p3 hok hn hc hpo h1
theorem oneE_zero {r : Rul} {p : Prc} {e : Evt} (h : oneE r p e = 0) : procE r p = 0 ∧ takesB p e = true ∧ hE r p e = 0 := by
  unfold oneE at h
  by_cases h1 : procE r p = 0
  · rw [if_neg (fun h => h h1)] at h
    cases h2 : takesB p e
    · rw [if_pos h2] at h; cases h
    · rw [if_neg (by rw [h2]; exact Bool.noConfusion)] at h
      exact ⟨h1, rfl, h⟩
  · rw [if_pos h1] at h; exact absurd h h1
def sOneB : Spec := fun args h m => match args with
  | [.agg [v1, v2, v3], .agg [v4, v5, v6, v7, v8, v9], v10] => match srcV h 5 (.tup []) v5, srcV h 1 (.tup []) v6, srcV h 1 (.tup []) v9 with
    | some (c5, n5, f5, r5), some (c6, n6, f6, r6), some (c9, n9, f9, r9) => bif isI .u64 v1 && isI .i64 v2 && isI .i64 v3 && isI .i64 v4 && isI .i64 v7 && isI .i64 v8 && isEvt v10 then some (c5 ∧ c6 ∧ c9 ∧ (∀ q, q < n5 → isIns (f5 q) = true) ∧ (∀ q, q < n6 → isI .i64 (f6 q) = true) ∧ (∀ q, q < n9 → isI .i64 (f9 q) = true) ∧ ((∀ x ∈ (ls insOf n5 f5), x.ok)) ∧ (n5 ≤ 1000000) ∧ (n6 ≤ 1000000) ∧ (n9 ≤ 1000000) ∧ (oneE ⟨(iOf v1), (iOf v2), (iOf v3)⟩ ⟨(iOf v4), (ls insOf n5 f5), (ls iOf n6 f6), (iOf v7), (iOf v8), (ls iOf n9 f9)⟩ (evtOf v10) ≠ 0), .tup [dn0, .int .i64 (oneE ⟨(iOf v1), (iOf v2), (iOf v3)⟩ ⟨(iOf v4), (ls insOf n5 f5), (ls iOf n6 f6), (iOf v7), (iOf v8), (ls iOf n9 f9)⟩ (evtOf v10))], r5 ++ r6 ++ r9, []) else none
    | _, _, _ => none
  | _ => none
theorem sOneB_ok : CallOk Tryz.prog 59 sOneB := by
  refine ⟨named_spec (by kernel_rfl), fun args h m c v rd wr hs hm hc w0 M β h' w R hrd hwr hst => ?_⟩
  unfold sOneB at hs
  split at hs
  · rename_i v1 v2 v3 v4 v5 v6 v7 v8 v9 v10
    split at hs
    · rename_i c5 n5 f5 r5 c6 n6 f6 r6 c9 n9 f9 r9 a5 a6 a9
      obtain ⟨hb, hs⟩ := bif_some hs
      simp only [Option.some.injEq, Prod.mk.injEq] at hs
      obtain ⟨rfl, rfl, rfl, rfl⟩ := hs
      simp only [Bool.and_eq_true] at hb
      obtain ⟨⟨⟨⟨⟨⟨b1, b2⟩, b3⟩, b4⟩, b7⟩, b8⟩, b10⟩ := hb
      obtain ⟨k5, k6, k9, g5, g6, g9, y1, y2, y3, y4, y5⟩ := hc
      obtain ⟨A5, p5, d5, e5, t5⟩ := reads_src R a5 k5 (fun i hi => hrd i (List.mem_append_left _ (List.mem_append_left _ hi))) (by omega)
      obtain ⟨A6, p6, d6, e6, t6⟩ := reads_src R a6 k6 (fun i hi => hrd i (List.mem_append_left _ (List.mem_append_right _ hi))) (by omega)
      obtain ⟨A9, p9, d9, e9, t9⟩ := reads_src R a9 k9 (fun i hi => hrd i (List.mem_append_right _ hi)) (by omega)
      refine callRo (views := [⟨5, (ls insOf n5 f5).length, prS (ls insOf n5 f5), A5, p5⟩, ⟨1, (ls iOf n6 f6).length, i64S (ls iOf n6 f6), A6, p6⟩, ⟨1, (ls iOf n9 f9).length, i64S (ls iOf n9 f9), A9, p9⟩]) (one_err ⟨(iOf v1), (iOf v2), (iOf v3)⟩ ⟨(iOf v4), (ls insOf n5 f5), (ls iOf n6 f6), (iOf v7), (iOf v8), (ls iOf n9 f9)⟩ (evtOf v10) p5 p6 p9 y1 (by rw [ls_length]; exact y2) (by rw [ls_length]; exact y3) (by rw [ls_length]; exact y4) y5) ?_ R hm hwr ?_ ?_ ?_
      · intro x hx
        simp only [List.mem_cons, List.not_mem_nil, or_false] at hx
        rcases hx with rfl | rfl | rfl
        · exact viewIns t5 e5 g5
        · exact viewI64 t6 e6 g6
        · exact viewI64 t9 e9 g9
      · intro β1 hv
        simp only [Vd, ls_length, and_true] at hv
        obtain ⟨z5, z6, z9⟩ := hv
        simp only [denL, aggDen, intDen, natDen, boolDen, ls_length, z5, z6, z9, d5, d6, d9, isI_den b1, isI_den b2, isI_den b3, isI_den b4, isI_den b7, isI_den b8, den_evtOf b10, den_evtS]
      · exact Vm.b112
      · exact Vm.b112
    · cases hs
  · cases hs
def sOneG : Spec := fun args h m => match args with
  | [.agg [v1, v2, v3], .agg [v4, v5, v6, v7, v8, v9], v10] => match srcV h 5 (.tup []) v5, srcV h 1 (.tup []) v6, srcV h 1 (.tup []) v9 with
    | some (c5, n5, f5, r5), some (c6, n6, f6, r6), some (c9, n9, f9, r9) => bif isI .u64 v1 && isI .i64 v2 && isI .i64 v3 && isI .i64 v4 && isI .i64 v7 && isI .i64 v8 && isEvt v10 then some (c5 ∧ c6 ∧ c9 ∧ (∀ q, q < n5 → isIns (f5 q) = true) ∧ (∀ q, q < n6 → isI .i64 (f6 q) = true) ∧ (∀ q, q < n9 → isI .i64 (f9 q) = true) ∧ ((∀ x ∈ (ls insOf n5 f5), x.ok)) ∧ (n5 ≤ 1000000) ∧ (n6 ≤ 1000000) ∧ (n9 ≤ 1000000) ∧ (oneE ⟨(iOf v1), (iOf v2), (iOf v3)⟩ ⟨(iOf v4), (ls insOf n5 f5), (ls iOf n6 f6), (iOf v7), (iOf v8), (ls iOf n9 f9)⟩ (evtOf v10) = 0), .tup [dnS (hS ⟨(iOf v1), (iOf v2), (iOf v3)⟩ ⟨⟨(iOf v4), (ls insOf n5 f5), (ls iOf n6 f6), (iOf v7), (iOf v8), (ls iOf n9 f9)⟩, [], 0⟩ (evtOf v10)) m (m + 1) (m + 2) (m + 3), .int .i64 0], r5 ++ r6 ++ r9, [(m, prO (ls insOf n5 f5)), (m + 1, cB (hR ⟨(iOf v1), (iOf v2), (iOf v3)⟩ ⟨(iOf v4), (ls insOf n5 f5), (ls iOf n6 f6), (iOf v7), (iOf v8), (ls iOf n9 f9)⟩ (evtOf v10)).s), (m + 2, inO (ls iOf n9 f9)), (m + 3, evO_ (hS ⟨(iOf v1), (iOf v2), (iOf v3)⟩ ⟨⟨(iOf v4), (ls insOf n5 f5), (ls iOf n6 f6), (iOf v7), (iOf v8), (ls iOf n9 f9)⟩, [], 0⟩ (evtOf v10)).sent)]) else none
    | _, _, _ => none
  | _ => none
theorem sOneG_ok : CallOk Tryz.prog 59 sOneG := by
  refine ⟨named_spec (by kernel_rfl), fun args h m c v rd wr hs hm hc w0 M β h' w R hrd hwr hst => ?_⟩
  unfold sOneG at hs
  split at hs
  · rename_i v1 v2 v3 v4 v5 v6 v7 v8 v9 v10
    split at hs
    · rename_i c5 n5 f5 r5 c6 n6 f6 r6 c9 n9 f9 r9 a5 a6 a9
      obtain ⟨hb, hs⟩ := bif_some hs
      simp only [Option.some.injEq, Prod.mk.injEq] at hs
      obtain ⟨rfl, rfl, rfl, rfl⟩ := hs
      simp only [Bool.and_eq_true] at hb
      obtain ⟨⟨⟨⟨⟨⟨b1, b2⟩, b3⟩, b4⟩, b7⟩, b8⟩, b10⟩ := hb
      obtain ⟨k5, k6, k9, g5, g6, g9, y1, y2, y3, y4, y5⟩ := hc
      obtain ⟨A5, p5, d5, e5, t5⟩ := reads_src R a5 k5 (fun i hi => hrd i (List.mem_append_left _ (List.mem_append_left _ hi))) (by omega)
      obtain ⟨A6, p6, d6, e6, t6⟩ := reads_src R a6 k6 (fun i hi => hrd i (List.mem_append_left _ (List.mem_append_right _ hi))) (by omega)
      obtain ⟨A9, p9, d9, e9, t9⟩ := reads_src R a9 k9 (fun i hi => hrd i (List.mem_append_right _ hi)) (by omega)
      refine callRo (views := [⟨5, (ls insOf n5 f5).length, prS (ls insOf n5 f5), A5, p5⟩, ⟨1, (ls iOf n6 f6).length, i64S (ls iOf n6 f6), A6, p6⟩, ⟨1, (ls iOf n9 f9).length, i64S (ls iOf n9 f9), A9, p9⟩]) (one_ok ⟨(iOf v1), (iOf v2), (iOf v3)⟩ ⟨(iOf v4), (ls insOf n5 f5), (ls iOf n6 f6), (iOf v7), (iOf v8), (ls iOf n9 f9)⟩ (evtOf v10) p5 p6 p9 y1 (by rw [ls_length]; exact y2) (by rw [ls_length]; exact y3) (by rw [ls_length]; exact y4) (oneE_zero y5).1 (oneE_zero y5).2.1 (oneE_zero y5).2.2) ?_ R hm hwr ?_ ?_ ?_
      · intro x hx
        simp only [List.mem_cons, List.not_mem_nil, or_false] at hx
        rcases hx with rfl | rfl | rfl
        · exact viewIns t5 e5 g5
        · exact viewI64 t6 e6 g6
        · exact viewI64 t9 e9 g9
      · intro β1 hv
        simp only [Vd, ls_length, and_true] at hv
        obtain ⟨z5, z6, z9⟩ := hv
        simp only [denL, aggDen, intDen, natDen, boolDen, ls_length, z5, z6, z9, d5, d6, d9, isI_den b1, isI_den b2, isI_den b3, isI_den b4, isI_den b7, isI_den b8, den_evtOf b10, den_evtS]
      · exact Vm.b112
      · exact Vm.b112
    · cases hs
  · cases hs
end Go.Proofs.YtjliakjbdcplcaaGreat.Vm
end

section
open Go.Proofs.YtjliakjbdcplcaaGreat.Vm Go.RowKit
attribute [local push_cast] runR opG gtmp gval gus opX tmpsOf tm tmO tmP restr look look2 tab tys zs ets eqB eqBL allB numOf ieq Int.cast_ofNat_Int Int.ofNat_zero beq_true beq_false frameOf ev evL ofV opV loadV noW pushF wrsL setH allBorn allGone HB.born HB.isGone HB.val SV.plain dstOk hp nav fitsT SV.size sizeL SV.isAgg TK.size TK.agg bin binE binN binI arN arI cmpN cmpI keq kn narrow callV storeV setp fillV buildV buildSliceV makeV sliceV appendV appendFV slice3V copyV List.isEmpty_nil srcV evO asN ite_t ite_f ite_bool ite_int ite_nat maxV v_beq v_ble v_blt cond_true cond_false List.getElem?_cons_zero List.getElem?_cons_succ List.getD_cons_zero List.getD_cons_succ List.getD_nil List.length_cons List.length_nil List.take_succ_cons List.take_zero List.set_cons_zero List.set_cons_succ List.cons_append List.nil_append List.append_assoc List.replicate_succ List.replicate_zero Nat.zero_add Nat.add_zero decide_true decide_false Bool.true_and Bool.and_true Bool.false_and Bool.and_false Bool.true_or Bool.or_true Bool.false_or Bool.or_false beq_self_eq_true Bool.or_self Nat.lt_irrefl Nat.not_lt_zero Nat.le_refl Option.getD_some Option.getD_none BEq.rfl Bool.not_true Bool.not_false Bool.cond_true_left Bool.cond_false_right prS sndsS i64S nav_ins nav_ins0 nav_ins1 nav_ins2 nav_ins3 nav_ins4 nav_snd nav_snd0 nav_snd1 nav_snd2 isIns_insS insOf_insS isSnd_sndS sndOf_sndS isI_int isI_nat iOf
section
namespace Go.Proofs.YtjliakjbdcplcaaGreat.Vm
open Go.RowKit
set_option linter.unusedVariables false
set_option linter.unusedSimpArgs false
set_option maxRecDepth 100000
set_option maxHeartbeats 4000000
def prT (P : List Ins) : HB := .own 175 (.arr P.length 5 (prS P)) false
theorem getD_app_l {α : Type} {l m : List α} {q : Nat} {d : α} (h : q < l.length) : (l ++ m).getD q d = l.getD q d := by
  rw [List.getD_eq_getElem?_getD, List.getD_eq_getElem?_getD, List.getElem?_append_left h]
theorem less_catQ {t : Nat} {σ : Nat → Nat} {b : Bool} (S : List Ins) (x : Ins) {n : Nat} {U : List Ins} (hn : S.length = n) (hU : S ++ [x] = U) {m : Nat} (hm : m = U.length) {g : Nat → SV} {xv z : SV} (hg : g = fun q => SV.ite (decide (q < n)) (insS (S.getD q ⟨0, 0, 0, 0, 0⟩)) ([xv].getD (q - n) z)) (hx : ∀ β, xv.cl β = x.cells) :
    Less (.own t (.arr m 5 g) b) ((HB.own t (.arr m 5 (prS U)) b).ren σ) := by
  subst hm
  have e : (HB.own t (.arr U.length 5 (prS U)) b).ren σ = .own t (.arr U.length 5 (prS U)) b := by
    simp only [HB.ren, SV.ren]; rw [prS_ren]
  rw [e]
  refine .val (fun β => arrCl fun q hq => ?_) (fun n1 k1 f1 e => by injection e with e1 e2 e3; subst e1 e2; exact ⟨_, rfl⟩) (fun n1 k1 f1 e => by injection e with e1 e2 e3; subst e1 e2; exact ⟨_, rfl⟩)
  subst hg hU hn
  dsimp only
  rw [ite_eq]
  unfold prS
  by_cases h : q < S.length
  · simp only [h, decide_true, cond_true]
    rw [getD_app_l h]
  · have hq' : q = S.length := by rw [List.length_append] at hq; simp at hq; omega
    subst hq'
    simp only [h, decide_false, cond_false, Nat.sub_self, List.getD_cons_zero, hx]
    rw [List.getD_eq_getElem?_getD, List.getElem?_append_right (Nat.le_refl _), Nat.sub_self, isIns_cl (isIns_insS _), insOf_insS]; rfl
theorem prS_st (P : List Ins) (h : HM) (q : Nat) : Stable h (prS P q) := by simp [prS, insS, Stable, StableL]
theorem take_sn {l : List Ins} {k : Nat} (hk : k < l.length) : l.take k ++ [l.getD k ⟨0, 0, 0, 0, 0⟩] = l.take (k + 1) := by
  rw [List.getD_eq_getElem?_getD, List.getElem?_eq_getElem hk, List.take_add_one, List.getElem?_eq_getElem hk]; rfl
theorem th14_lit (P : List Ins) (p1 : Nat) (hn : P.length ≤ 1000000) : LitOk Tryz.prog 37 [.sl 1 2 [] 5 0 P.length (some p1)] [.gone, .gone, .ro (.arr P.length 5 (prS P))] (.sl 3 3 [] 5 0 P.length none) [.gone, .gone, .gone, prT P] := by
  refine litOkM (fn := Tryz.f37) 3 18 0 rfl rfl rfl rfl rfl (by simp only [StableL, Stable, hp, i64S, prS, insS, sndsS, sndS, prT, i64O, inO, prO, HB.stable]; simp [HB.born]) rfl fun w0 M E hro => ?_
  repeat' (first | refine Ctl.h ?_ | ((with_reducible intro hif); first | (focus (cases hif; done)) | (simp only [JH] at hif; try (exfalso; omega)) | (try (exfalso; omega))) | ((first | ((with_reducible apply J22 c1_ok tab_ok); (· rfl)) | ((with_reducible apply J23 fol c1_ok tab_ok); (· rfl)) | with_reducible apply J24); (· exact Vm.b18); (try kernel_rfl); (try exact Vm.b12)) | fail)
  refine WF.nilFr (φ2 := [(3, .sl 3 3 [] 5 0 0 none), (6, .sl 1 2 [] 5 0 P.length (some p1)), (7, .nat .i64 P.length), (8, .nat .i64 0)]) 175 5 (prS []) (fun h q => prS_st [] h q) rfl ?_ ?_ ?_
  · refine ⟨⟨_, rfl, fun β h0 hx => (nil_cl (k := 5) h0 (show β 3 = (none, 0) from hx)).symm⟩, ⟨_, rfl, fun β _ _ => rfl⟩, ⟨_, rfl, fun β _ _ => rfl⟩, ⟨_, rfl, fun β _ _ => rfl⟩, trivial⟩
  · simp [StableF, Stable, hp, HB.born]
  simp only [List.cons_append, List.nil_append]
  have hz : Less (.own 175 (.arr 0 5 (prS [])) false) (.own 175 (.arr 0 5 (prS (P.take 0))) false) := .same _
  refine WF.loopAt (fun (j : Nat) => j ≤ P.length) (fun (j : Nat) => [(3, .sl 3 3 [] 5 0 j none), (6, .sl 1 2 [] 5 0 P.length (some p1)), (7, .nat .i64 P.length), (8, .nat .i64 j)]) (fun (j : Nat) => [.gone, .gone, .ro (.arr P.length 5 (prS P)), .own 175 (.arr j 5 (prS (P.take j))) false]) (fun (j : Nat) => P.length - j) 0 (Nat.zero_le _) ?_ ?_ rfl ?_ ?_ rfl ?_
  · exact Vm.b5
  · exact Vm.b6
  · exact Vm.b113
  · exact Vm.b113
  intro j hj
  by_cases hjl : j < P.length
  · have hTl : (P.take j).length = j := by rw [List.length_take]; omega
    have hUl : j + 1 = (P.take (j + 1)).length := by rw [List.length_take]; omega
    repeat' (first | refine Ctl.h ?_ | ((with_reducible intro hif); first | (focus (cases hif; done)) | (simp only [JH] at hif; try (exfalso; omega)) | (try (exfalso; omega))) | ((first | ((with_reducible apply J22 c1_ok tab_ok); (· rfl)) | ((with_reducible apply J23 fol c1_ok tab_ok); (· rfl)) | with_reducible apply J24); (· (simp only [push_cast, ↓JP, Nat.reduceAdd, Nat.reduceEqDiff, Nat.reduceLT, Nat.reduceMul, Nat.reduceLeDiff, reduceCtorEq, reduceIte, ↓JK, hjl, inR, inN, List.all_cons, List.all_nil]; rfl)); (try kernel_rfl); (try exact Vm.b14)) | fail)
    refine At.nextPick [0, 1, 2, 6] (j + 1) ?_ rfl rfl rfl ?_ rfl ?_ ?_ ?_ rfl
    · omega
    · (repeat' (first | exact trivial | exact .inl rfl | exact .inr (.same _) | exact .inr .loose | exact .inr (.arr (by assumption)) | apply And.intro | (exact .inr (less_catQ (P.take j) (P.getD j ⟨0, 0, 0, 0, 0⟩) hTl (take_sn hjl) hUl rfl (fun β => by rw [isIns_cl (isIns_insS _), insOf_insS])))))
    · exact Vm.b113
    · exact Vm.b67
    · exact Vm.b113
  · obtain rfl : j = P.length := by omega
    repeat' (first | refine Ctl.h ?_ | ((with_reducible intro hif); first | (focus (cases hif; done)) | (simp only [JH] at hif; try (exfalso; omega)) | (try (exfalso; omega))) | ((first | ((with_reducible apply J22 c1_ok tab_ok); (· rfl)) | ((with_reducible apply J23 fol c1_ok tab_ok); (· rfl)) | with_reducible apply J24); (· (simp only [push_cast, ↓JP, Nat.reduceAdd, Nat.reduceEqDiff, Nat.reduceLT, Nat.reduceMul, Nat.reduceLeDiff, reduceCtorEq, reduceIte, ↓JK, hjl, List.take_length]; rfl)); (try kernel_rfl); (try exact Vm.b12)) | fail)
    apply At.endsPick [0, 1, 2, 3] tab_ok (fn := Tryz.f37) (rs := [.tmp 2]) Anc.refl hro (Nat.le_of_ble_eq_true rfl) rfl
    · exact Vm.b11
    · exact Vm.b26
    · rfl
    · rfl
    · rfl
    · (repeat' (first | exact trivial | exact .inl rfl | exact .inr (.same _) | exact .inr .loose | exact .inr (.arr (by assumption)) | apply And.intro | (exact .inr (.same _))))
    · rfl
    · exact Vm.b113
    · exact Vm.b10
    · exact fun β => rfl
    · exact Vm.b113
def sTh14 : Spec := fun args h m => match args with
  | [v1] => match srcV h 5 (.tup []) v1 with
    | some (c1, n1, f1, r1) => some (c1 ∧ (∀ q, q < n1 → isIns (f1 q) = true) ∧ (n1 ≤ 1000000), .sl m m [] 5 0 (ls insOf n1 f1).length none, r1, [(m, prT (ls insOf n1 f1))])
    | _ => none
  | _ => none
theorem sTh14_ok : CallOk Tryz.prog 37 sTh14 := by
  refine ⟨named_spec (by kernel_rfl), fun args h m c v rd wr hs hm hc w0 M β h' w R hrd hwr hst => ?_⟩
  unfold sTh14 at hs
  split at hs
  · rename_i v1
    split at hs
    · rename_i c1 n1 f1 r1 a1
      simp only [Option.some.injEq, Prod.mk.injEq] at hs
      obtain ⟨rfl, rfl, rfl, rfl⟩ := hs
      obtain ⟨k1, g1, y1⟩ := hc
      obtain ⟨A1, p1, d1, e1, t1⟩ := reads_src R a1 k1 (fun i hi => hrd i hi) (by omega)
      refine callRo (views := [⟨5, (ls insOf n1 f1).length, prS (ls insOf n1 f1), A1, p1⟩]) (th14_lit (ls insOf n1 f1) p1 (by rw [ls_length]; exact y1)) ?_ R hm hwr ?_ ?_ ?_
      · intro x hx
        simp only [List.mem_cons, List.not_mem_nil, or_false] at hx
        subst hx
        · exact viewIns t1 e1 g1
      · intro β1 hv
        simp only [Vd, ls_length, and_true] at hv
        have z1 := hv
        simp only [denL, aggDen, intDen, natDen, boolDen, ls_length, z1, d1]
      · exact Vm.b113
      · exact Vm.b113
    · cases hs
  · cases hs
def cTh28 : FuncId → Option Spec := look2 [(37, sTh14), (35, sCl64), (54, sClN)]
theorem cTh28_ok : ∀ f S, cTh28 f = some S → CallOk Tryz.prog f S := allOk_spec ⟨sTh14_ok, sCl64_ok, sClN_ok, trivial⟩
theorem th28_lit (p : Prc) (p1 p2 p3 : Nat) (hn : p.P.length ≤ 1000000) (hc : p.cells.length ≤ 1000000) (hq : p.ports.length ≤ 1000000) : LitOk Tryz.prog 58 [.agg [.int .i64 p.id, .sl 1 2 [] 5 0 p.P.length (some p1), .sl 3 4 [] 1 0 p.cells.length (some p2), .int .i64 p.draws, .int .i64 p.seq, .sl 5 6 [] 1 0 p.ports.length (some p3)]]
    [.gone, .gone, .ro (.arr p.P.length 5 (prS p.P)), .gone, .ro (.arr p.cells.length 1 (i64S p.cells)), .gone, .ro (.arr p.ports.length 1 (i64S p.ports))]
    (.agg [.int .i64 p.id, .sl 7 7 [] 5 0 p.P.length none, .sl 8 8 [] 1 0 p.cells.length none, .int .i64 p.draws, .int .i64 p.seq, .sl 9 9 [] 1 0 p.ports.length none]) [.gone, .gone, .gone, .gone, .gone, .gone, .gone, prT p.P, i64O p.cells, inO p.ports] := by
  refine litOkM (fn := Tryz.f58) 7 19 0 rfl rfl rfl rfl rfl (by simp only [StableL, Stable, hp, i64S, prS, insS, sndsS, sndS, prT, i64O, inO, prO, HB.stable]; simp [HB.born]) rfl fun w0 M E hro => ?_
  repeat' (first | refine Ctl.h ?_ | ((with_reducible intro hif); first | (focus (cases hif; done)) | (simp only [JH] at hif; try (exfalso; omega)) | (try (exfalso; omega))) | ((first | ((with_reducible apply J22 cTh28_ok tab_ok); (· rfl)) | ((with_reducible apply J23 fol cTh28_ok tab_ok); (· rfl)) | with_reducible apply J24); (· (simp only [push_cast, ↓JP, Nat.reduceAdd, Nat.reduceEqDiff, Nat.reduceLT, Nat.reduceMul, Nat.reduceLeDiff, reduceCtorEq, reduceIte, ↓JK, JE, cTh28, sTh14, sCl64, sClN, prT, i64O, inO, ls_prS, ls_prS', ls_prS2, inR, inN]; rfl)); (try kernel_rfl); (try exact Vm.b82)) | fail)
  apply At.endsPick [0, 1, 2, 3, 4, 5, 6, 9, 10, 11] tab_ok (fn := Tryz.f58) (rs := [.cell 2 130]) Anc.refl hro (Nat.le_of_ble_eq_true rfl) rfl
  · exact Vm.b11
  · exact Vm.b26
  · rfl
  · rfl
  · rfl
  · exact Vm.b40
  · rfl
  · exact Vm.b113
  · exact Vm.b10
  · exact fun β => rfl
  · exact Vm.b113
def sTh28 : Spec := fun args h m => match args with
  | [.agg [v1, v2, v3, v4, v5, v6]] => match srcV h 5 (.tup []) v2, srcV h 1 (.tup []) v3, srcV h 1 (.tup []) v6 with
    | some (c2, n2, f2, r2), some (c3, n3, f3, r3), some (c6, n6, f6, r6) => bif isI .i64 v1 && isI .i64 v4 && isI .i64 v5 then some (c2 ∧ c3 ∧ c6 ∧ (∀ q, q < n2 → isIns (f2 q) = true) ∧ (∀ q, q < n3 → isI .i64 (f3 q) = true) ∧ (∀ q, q < n6 → isI .i64 (f6 q) = true) ∧ (n2 ≤ 1000000) ∧ (n3 ≤ 1000000) ∧ (n6 ≤ 1000000), .agg [.int .i64 (iOf v1), .sl m m [] 5 0 (ls insOf n2 f2).length none, .sl (m + 1) (m + 1) [] 1 0 (ls iOf n3 f3).length none, .int .i64 (iOf v4), .int .i64 (iOf v5), .sl (m + 2) (m + 2) [] 1 0 (ls iOf n6 f6).length none], r2 ++ r3 ++ r6, [(m, prT (ls insOf n2 f2)), (m + 1, i64O (ls iOf n3 f3)), (m + 2, inO (ls iOf n6 f6))]) else none
    | _, _, _ => none
  | _ => none
theorem sTh28_ok : CallOk Tryz.prog 58 sTh28 := by
  refine ⟨named_spec (by kernel_rfl), fun args h m c v rd wr hs hm hc w0 M β h' w R hrd hwr hst => ?_⟩
  unfold sTh28 at hs
  split at hs
  · rename_i v1 v2 v3 v4 v5 v6
    split at hs
    · rename_i c2 n2 f2 r2 c3 n3 f3 r3 c6 n6 f6 r6 a2 a3 a6
      obtain ⟨hb, hs⟩ := bif_some hs
      simp only [Option.some.injEq, Prod.mk.injEq] at hs
      obtain ⟨rfl, rfl, rfl, rfl⟩ := hs
      simp only [Bool.and_eq_true] at hb
      obtain ⟨⟨b1, b4⟩, b5⟩ := hb
      obtain ⟨k2, k3, k6, g2, g3, g6, y1, y2, y3⟩ := hc
      obtain ⟨A2, p2, d2, e2, t2⟩ := reads_src R a2 k2 (fun i hi => hrd i (List.mem_append_left _ (List.mem_append_left _ hi))) (by omega)
      obtain ⟨A3, p3, d3, e3, t3⟩ := reads_src R a3 k3 (fun i hi => hrd i (List.mem_append_left _ (List.mem_append_right _ hi))) (by omega)
      obtain ⟨A6, p6, d6, e6, t6⟩ := reads_src R a6 k6 (fun i hi => hrd i (List.mem_append_right _ hi)) (by omega)
      refine callRo (views := [⟨5, (ls insOf n2 f2).length, prS (ls insOf n2 f2), A2, p2⟩, ⟨1, (ls iOf n3 f3).length, i64S (ls iOf n3 f3), A3, p3⟩, ⟨1, (ls iOf n6 f6).length, i64S (ls iOf n6 f6), A6, p6⟩]) (th28_lit ⟨(iOf v1), (ls insOf n2 f2), (ls iOf n3 f3), (iOf v4), (iOf v5), (ls iOf n6 f6)⟩ p2 p3 p6 (by rw [ls_length]; exact y1) (by rw [ls_length]; exact y2) (by rw [ls_length]; exact y3)) ?_ R hm hwr ?_ ?_ ?_
      · intro x hx
        simp only [List.mem_cons, List.not_mem_nil, or_false] at hx
        rcases hx with rfl | rfl | rfl
        · exact viewIns t2 e2 g2
        · exact viewI64 t3 e3 g3
        · exact viewI64 t6 e6 g6
      · intro β1 hv
        simp only [Vd, ls_length, and_true] at hv
        obtain ⟨z2, z3, z6⟩ := hv
        simp only [denL, aggDen, intDen, natDen, boolDen, ls_length, z2, z3, z6, d2, d3, d6, isI_den b1, isI_den b4, isI_den b5]
      · exact Vm.b113
      · exact Vm.b113
    · cases hs
  · cases hs
end Go.Proofs.YtjliakjbdcplcaaGreat.Vm
end

section
namespace Go.Proofs.YtjliakjbdcplcaaGreat.Vm
open Go.RowKit
set_option linter.unusedVariables false
set_option linter.unusedSimpArgs false
def kcE (a b : Evt) : Int × Int := kcmp a.time a.source a.seq b.time b.source b.seq
def badAt (p : Prc) (l : List Evt) (i : Nat) : Int := if takesB p (l.getD i ⟨0, 0, 0, 0, 0⟩) = false then 282 else if 0 < i ∧ 0 ≤ (kcE (l.getD (i - 1) ⟨0, 0, 0, 0, 0⟩) (l.getD i ⟨0, 0, 0, 0, 0⟩)).1 then 283 else 0
theorem HG.next {r : Rul} {D : Dn} {e : Evt} (h : HG r D.p e) (h0 : hE r D.p e = 0) : (hS r D e).p.rightB = true ∧ (hS r D e).p.P = D.p.P ∧ (hS r D e).p.id = D.p.id ∧ (hS r D e).p.ports = D.p.ports ∧ (hS r D e).p.cells.length = D.p.cells.length ∧ D.p.draws ≤ (hS r D e).p.draws ∧ (hS r D e).p.seq = D.p.seq + (hR r D.p e).s.sends.length ∧ (hS r D e).sent.length = D.sent.length + (hR r D.p e).s.sends.length ∧ (hR r D.p e).s.sends.length ≤ (hR r D.p e).tr.length ∧ (hS r D e).used = D.used + (hR r D.p e).tr.length := by
  obtain ⟨hb, hg, hq⟩ := hE_zero h0
  obtain ⟨hI, hG⟩ := h.si hb
  obtain ⟨h1, h2, h4, h5, h6, h7, h8, h9, h10⟩ := rightB_iff.1 h.hp
  have hl := hI.l
  have hd := hI.d
  have hn := hI.n
  have hc : cnt D.p.P 8 (hR r D.p e).tr ≤ (hR r D.p e).tr.length := List.length_filter_le _ _
  refine ⟨rightB_iff.2 ⟨h1, h2, ?_, ?_, ?_, ?_, ?_, h9, h10⟩, rfl, rfl, rfl, hl, ?_, rfl, ?_, by omega, rfl⟩
  · show (hR r D.p e).s.cells.length ≤ 1024; omega
  · exact hG.d0
  · exact hG.d1
  · show 0 ≤ D.p.seq + ((hR r D.p e).s.sends.length : Int); omega
  · show D.p.seq + ((hR r D.p e).s.sends.length : Int) ≤ 4294967296; omega
  · show D.p.draws ≤ (hR r D.p e).s.draws; omega
  · show (D.sent ++ _).length = _; rw [List.length_append, sentL_len]
structure FI (r : Rul) (p : Prc) (l : List Evt) (k : Nat) (D : Dn) : Prop where
  hp : D.p.rightB = true
  P : D.p.P = p.P
  id : D.p.id = p.id
  po : D.p.ports = p.ports
  cl : D.p.cells.length = p.cells.length
  dr : p.draws ≤ D.p.draws
  sq : D.p.seq = p.seq + (D.sent.length : Int)
  su : D.sent.length ≤ D.used
  us : (D.used : Int) ≤ r.fuel * k
theorem FI.hg {r : Rul} {p : Prc} {l : List Evt} {k : Nat} {D : Dn} (h : FI r p l k D) (hr : r.rightB = true) (hok : ∀ x ∈ p.P, x.ok) {e : Evt} (ht : takesB p e = true) : HG r D.p e :=
  ⟨hr, h.hp, by rw [h.P]; exact hok, (takes_key ht).1, (takes_key ht).2⟩
theorem FI.step {r : Rul} {p : Prc} {l : List Evt} {k : Nat} {D : Dn} (h : FI r p l k D) (hr : r.rightB = true) (hok : ∀ x ∈ p.P, x.ok) {e : Evt} (ht : takesB p e = true) (h0 : hE r D.p e = 0) : FI r p l (k + 1) (hS r D e) := by
  have G := h.hg hr hok ht
  obtain ⟨n1, n2, n3, n4, n5, n6, n7, n8, n9, n10⟩ := G.next h0
  have hl := G.len
  refine ⟨n1, n2.trans h.P, n3.trans h.id, n4.trans h.po, n5.trans h.cl, Int.le_trans h.dr n6, by rw [n7, n8, h.sq]; omega, by rw [n8, n10]; have := h.su; omega, ?_⟩
  have := h.us
  rw [n10]
  have e1 : r.fuel * ((k + 1 : Nat) : Int) = r.fuel * (k : Int) + r.fuel := by
    rw [show ((k + 1 : Nat) : Int) = (k : Int) + 1 by omega, Int.mul_add, Int.mul_one]
  rw [e1]
  omega
theorem badAt_takes {p : Prc} {l : List Evt} {i : Nat} (h : badAt p l i = 0) : takesB p (l.getD i ⟨0, 0, 0, 0, 0⟩) = true := by
  unfold badAt at h
  cases ht : takesB p (l.getD i ⟨0, 0, 0, 0, 0⟩)
  · rw [if_pos ht] at h; cases h
  · rfl
end Go.Proofs.YtjliakjbdcplcaaGreat.Vm
end

section
namespace Go.Proofs.YtjliakjbdcplcaaGreat.Vm
open Go.RowKit
set_option linter.unusedVariables false
set_option linter.unusedSimpArgs false
structure ESm where
  more : Int
  source : Int
  value : Int
deriving DecidableEq
def ESm.cells (e : ESm) : List Value := [.int .u8 e.more, .int .u8 e.source, .int .i64 e.value]
def esA (e : ESm) : SV := .agg [.int .u8 e.more, .int .u8 e.source, .int .i64 e.value]
def esS (l : List ESm) : Nat → SV := fun q => esA (l.getD q ⟨0, 0, 0⟩)
structure ESm.ok (e : ESm) : Prop where
  m0 : 0 ≤ e.more
  m1 : e.more ≤ 255
  s0 : 0 ≤ e.source
  s1 : e.source ≤ 255
def lastE (l : List Evt) : Evt := l.getD (l.length - 1) ⟨0, 0, 0, 0, 0⟩
structure MI (id : Int) (k : Nat) (S : Int × List Evt) : Prop where
  n : S.2.length = k
  t0 : 1 ≤ S.1
  t1 : S.1 ≤ 1 + 255 * (k : Int)
  l : 0 < k → (lastE S.2).time = S.1 ∧ 0 ≤ (lastE S.2).source ∧ (lastE S.2).source ≤ 16
  b : ∀ q, q < k → (keyB (S.2.getD q ⟨0, 0, 0, 0, 0⟩).time (S.2.getD q ⟨0, 0, 0, 0, 0⟩).source (S.2.getD q ⟨0, 0, 0, 0, 0⟩).seq = true ∧ (S.2.getD q ⟨0, 0, 0, 0, 0⟩).to_ = id ∧ 1 ≤ (S.2.getD q ⟨0, 0, 0, 0, 0⟩).time ∧ (S.2.getD q ⟨0, 0, 0, 0, 0⟩).seq = q) ∧ (0 < q → (kcE (S.2.getD (q - 1) ⟨0, 0, 0, 0, 0⟩) (S.2.getD q ⟨0, 0, 0, 0, 0⟩)).1 = -1)
end Go.Proofs.YtjliakjbdcplcaaGreat.Vm
end

section
namespace Go.Proofs.YtjliakjbdcplcaaGreat.Vm
open Go.RowKit
set_option linter.unusedVariables false
set_option linter.unusedSimpArgs false
set_option maxRecDepth 100000
def sMd14 : Spec := fun args h m => match args with
  | [.sl z i pa k s n' (some cp)] => match srcV h 5 (.tup []) (.sl z i pa k s n' (some cp)) with
    | some (c, n, f, rd) =>
        some (c ∧ n = n' ∧ (∀ q, q < n → isIns (f q) = true) ∧ (∀ x ∈ ls insOf n f, x.ok) ∧ max n cp ≤ 9223372036854775807, .sl m m [] 5 0 (made14 (ls insOf n f)).length none, rd, [(m, .own 38 (.arr (made14 (ls insOf n f)).length 5 (prS (made14 (ls insOf n f)))) false)])
    | _ => none
  | _ => none
end Go.Proofs.YtjliakjbdcplcaaGreat.Vm
end

section
namespace Go.Proofs.YtjliakjbdcplcaaGreat.Vm
open Go.RowKit
set_option linter.unusedVariables false
set_option linter.unusedSimpArgs false
set_option maxRecDepth 100000
set_option maxHeartbeats 4000000
def mSnd (n : Nat) : List Snd := (List.range n).map fun i : Nat => ⟨(i : Int), (i : Int), 1⟩
def sMd18N : Spec := fun args h m => match args with
  | [.agg [v1, .arr 8 1 v2, v3, v4, v5], v6] => match srcV h 1 (.tup []) v3, srcV h 5 (.tup []) v6 with
    | some (c3, n3, f3, r3), some (c6, n6, f6, r6) => bif isI .u8 v1 && isI .u32 v4 && isI .u8 v5 then some (c3 ∧ c6 ∧ (∀ q, q < n3 → isI .i64 (f3 q) = true) ∧ (∀ q, q < n6 → isIns (f6 q) = true) ∧ (∀ q, q < 8 → isI .i64 (v2 q) = true) ∧ (0 ≤ (iOf v1) ∧ (iOf v1) ≤ 255) ∧ (0 ≤ (iOf v4) ∧ (iOf v4) ≤ 4294967295) ∧ (0 ≤ (iOf v5) ∧ (iOf v5) ≤ 255) ∧ (n6 ≤ 1000000) ∧ ((mSnd ((iOf v5).tmod 21).toNat).isEmpty = true), .agg [.int .i64 ((iOf v1).tmod ((max (ls insOf n6 f6).length 1 : Nat) : Int)), .bool false, .arr 8 1 (fun q => .int .i64 (iOf (v2 q))), .sl m m [] 1 0 ((ls iOf n3 f3).take 12).length none, .int .i64 (iOf v4), .sl 0 0 [] 0 0 0 (some 0)], r3 ++ r6, [(m, .own 2 (.arr ((ls iOf n3 f3).take 12).length 1 (i64S ((ls iOf n3 f3).take 12))) false)]) else none
    | _, _ => none
  | _ => none
def sMd18S : Spec := fun args h m => match args with
  | [.agg [v1, .arr 8 1 v2, v3, v4, v5], v6] => match srcV h 1 (.tup []) v3, srcV h 5 (.tup []) v6 with
    | some (c3, n3, f3, r3), some (c6, n6, f6, r6) => bif isI .u8 v1 && isI .u32 v4 && isI .u8 v5 then some (c3 ∧ c6 ∧ (∀ q, q < n3 → isI .i64 (f3 q) = true) ∧ (∀ q, q < n6 → isIns (f6 q) = true) ∧ (∀ q, q < 8 → isI .i64 (v2 q) = true) ∧ (0 ≤ (iOf v1) ∧ (iOf v1) ≤ 255) ∧ (0 ≤ (iOf v4) ∧ (iOf v4) ≤ 4294967295) ∧ (0 ≤ (iOf v5) ∧ (iOf v5) ≤ 255) ∧ (n6 ≤ 1000000) ∧ ((mSnd ((iOf v5).tmod 21).toNat).isEmpty = false), .agg [.int .i64 ((iOf v1).tmod ((max (ls insOf n6 f6).length 1 : Nat) : Int)), .bool false, .arr 8 1 (fun q => .int .i64 (iOf (v2 q))), .sl m m [] 1 0 ((ls iOf n3 f3).take 12).length none, .int .i64 (iOf v4), .sl (m + 1) (m + 1) [] 3 0 (mSnd ((iOf v5).tmod 21).toNat).length none], r3 ++ r6, [(m, .own 2 (.arr ((ls iOf n3 f3).take 12).length 1 (i64S ((ls iOf n3 f3).take 12))) false), (m + 1, .own 125 (.arr (mSnd ((iOf v5).tmod 21).toNat).length 3 (sndsS (mSnd ((iOf v5).tmod 21).toNat))) false)]) else none
    | _, _ => none
  | _ => none
end Go.Proofs.YtjliakjbdcplcaaGreat.Vm
end

section
namespace Go.Proofs.YtjliakjbdcplcaaGreat.Vm
open Go.RowKit
set_option linter.unusedVariables false
set_option linter.unusedSimpArgs false
set_option maxRecDepth 100000
set_option maxHeartbeats 4000000
end Go.Proofs.YtjliakjbdcplcaaGreat.Vm
end

section
namespace Go.Proofs.YtjliakjbdcplcaaGreat.Vm
open Go.RowKit
set_option linter.unusedVariables false
set_option linter.unusedSimpArgs false
set_option maxRecDepth 100000
set_option maxHeartbeats 4000000
theorem hs_lit (r : Rul) (n p : Nat) : LitOk Tryz.prog 76 [.ptr 1 [], .agg [.int .u64 r.seed, .int .i64 r.ahead, .int .i64 r.fuel], .sl 2 3 [] 5 0 n (some p)] [.gone, .gone, .gone, .gone] (.fn 106 [.ptr 6 [], .ptr 4 [], .ptr 5 []])
    [.gone, .gone, .gone, .gone, .own 160 (.ptr 1 []) true, .own 65 (.agg [.int .u64 r.seed, .int .i64 r.ahead, .int .i64 r.fuel]) true, .own 68 (.sl 2 3 [] 5 0 n (some p)) true] := by
  refine litOkM (fn := Tryz.f76) 4 8 0 rfl rfl rfl rfl rfl (by simp only [StableL, Stable, hp, pcS, dnB, DnI.at_, dnS, dnR, i64S, prS, insS, sndsS, sndS, evtsS, evtS, prO, i64O, inO, evO_, cB, sB, HB.stable]; simp [HB.born]) rfl fun w0 M E hro => ?_
  repeat' (first | refine Ctl.h ?_ | ((with_reducible intro hif); first | (focus (cases hif; done)) | (simp only [JH] at hif; try (exfalso; omega)) | (try (exfalso; omega))) | ((first | ((with_reducible apply J22 c1_ok tab_ok); (· rfl)) | ((with_reducible apply J23 fol c1_ok tab_ok); (· rfl)) | with_reducible apply J24); (· exact Vm.b37); (try kernel_rfl); (try exact Vm.b14)) | fail)
  apply At.endsPick [0, 1, 2, 3, 4, 5, 6] tab_ok (fn := Tryz.f76) (rs := [.tmp 6]) Anc.refl hro (Nat.le_of_ble_eq_true rfl) rfl
  · exact Vm.b11
  · exact Vm.b26
  · rfl
  · rfl
  · rfl
  · exact Vm.b40
  · rfl
  · exact Vm.b112
  · exact Vm.b10
  · exact fun β => rfl
  · exact Vm.b112
def rHs : Spec := fun args h m => match args with
  | [.ptr d [], .agg [.int .u64 a, .int .i64 b, .int .i64 k], .sl z i [] 5 0 n (some p)] => bif (h d).born && ((h z).born && (h i).born) && nodupN [0, d, z, i] then some (True, .fn 106 [.ptr (m + 2) [], .ptr m [], .ptr (m + 1) []], [d, z, i],
      [(m, .own 160 (.ptr d []) true), (m + 1, .own 65 (.agg [.int .u64 a, .int .i64 b, .int .i64 k]) true), (m + 2, .own 68 (.sl z i [] 5 0 n (some p)) true)]) else none
  | _ => none
theorem rHs_ok : CallOk Tryz.prog 76 rHs := by
  refine ⟨named_spec (by kernel_rfl), fun args h m c v rd wr hs hm hc w0 M β h' w R hrd hwr hst => ?_⟩
  unfold rHs at hs
  split at hs
  · rename_i d a b k z i n p
    obtain ⟨hb, hs⟩ := bif_some hs
    simp only [Option.some.injEq, Prod.mk.injEq] at hs
    obtain ⟨rfl, rfl, rfl, rfl⟩ := hs
    simp only [Bool.and_eq_true] at hb
    obtain ⟨⟨b1, b2, b3⟩, hnd⟩ := hb
    have e1 : rhoL [0, d, z, i] m 4 = m := by simp [rhoL]
    have e2 : rhoL [0, d, z, i] m 5 = m + 1 := by simp [rhoL]
    have e3 : rhoL [0, d, z, i] m 6 = m + 2 := by simp [rhoL]
    have e4 : rhoL [0, d, z, i] m 1 = d := by simp [rhoL]
    have e5 : rhoL [0, d, z, i] m 2 = z := by simp [rhoL]
    have e6 : rhoL [0, d, z, i] m 3 = i := by simp [rhoL]
    exact bun_ok (h := h) (m := m) [0, d, z, i] (hs_lit ⟨a, b, k⟩ n p) R rfl (by simp) rfl rfl hnd
      ⟨Fit.gone (by rw [R.nil0]; rfl), Fit.gone (by rw [hrd d (by simp)]; exact b1), Fit.gone (by rw [hrd z (by simp)]; exact b2), Fit.gone (by rw [hrd i (by simp)]; exact b3), trivial⟩ hm
      (fun p' hp => by
        simp only [newB, List.drop, List.length_cons, List.length_nil, List.mem_cons, List.not_mem_nil, or_false] at hp
        rcases hp with rfl | rfl | rfl
        · exact hwr (m, .own 160 (.ptr d []) true) (by simp)
        · exact hwr (m + 1, .own 65 (.agg [.int .u64 a, .int .i64 b, .int .i64 k]) true) (by simp)
        · exact hwr (m + 2, .own 68 (.sl z i [] 5 0 n (some p)) true) (by simp)) (by simp) rfl
      ⟨trivial, trivial, trivial, trivial, trivial⟩ ⟨rfl, by simp [Stable, StableL], ⟨rfl, rfl⟩, trivial⟩ ⟨trivial, trivial, trivial, trivial, by simp [HB.stable, Stable, hp, mrgL, HB.born, HB.mine], by simp [HB.stable, Stable, StableL], by simp [HB.stable, Stable, hp, mrgL, HB.born, HB.mine], trivial⟩ (by simp [Stable, StableL, hp, mrgL, HB.born, HB.mine]) rfl
      (by simp only [SV.ren, renL, e1, e2, e3]) (by
        show [(m, (HB.own 160 (.ptr 1 []) true).ren _), (m + 1, (HB.own 65 (.agg [.int .u64 a, .int .i64 b, .int .i64 k]) true).ren _), (m + 2, (HB.own 68 (.sl 2 3 [] 5 0 n (some p)) true).ren _)] = _
        simp only [HB.ren, SV.ren, renL, e4, e5, e6])
  · cases hs
theorem badAt_zero {p : Prc} {l : List Evt} {i : Nat} (h : badAt p l i = 0) : takesB p (l.getD i ⟨0, 0, 0, 0, 0⟩) = true ∧ (0 < i → ¬ 0 ≤ (kcmp (l.getD (i - 1) ⟨0, 0, 0, 0, 0⟩).time (l.getD (i - 1) ⟨0, 0, 0, 0, 0⟩).source (l.getD (i - 1) ⟨0, 0, 0, 0, 0⟩).seq (l.getD i ⟨0, 0, 0, 0, 0⟩).time (l.getD i ⟨0, 0, 0, 0, 0⟩).source (l.getD i ⟨0, 0, 0, 0, 0⟩).seq).1) := by
  have ht := badAt_takes h
  refine ⟨ht, fun h0 hk => ?_⟩
  unfold badAt at h
  rw [if_neg (by rw [ht]; exact Bool.noConfusion), if_pos ⟨h0, hk⟩] at h
  cases h
theorem badAt_not {p : Prc} {l : List Evt} {i : Nat} (h : badAt p l i ≠ 0) : (takesB p (l.getD i ⟨0, 0, 0, 0, 0⟩) = false ∧ badAt p l i = 282) ∨ (takesB p (l.getD i ⟨0, 0, 0, 0, 0⟩) = true ∧ badAt p l i = 283 ∧ 0 < i ∧ 0 ≤ (kcmp (l.getD (i - 1) ⟨0, 0, 0, 0, 0⟩).time (l.getD (i - 1) ⟨0, 0, 0, 0, 0⟩).source (l.getD (i - 1) ⟨0, 0, 0, 0, 0⟩).seq (l.getD i ⟨0, 0, 0, 0, 0⟩).time (l.getD i ⟨0, 0, 0, 0, 0⟩).source (l.getD i ⟨0, 0, 0, 0, 0⟩).seq).1) := by
  unfold badAt at h ⊢
  cases ht : takesB p (l.getD i ⟨0, 0, 0, 0, 0⟩)
  · exact .inl ⟨rfl, if_pos rfl⟩
  · rw [ht] at h
    rw [if_neg Bool.noConfusion] at h ⊢
    by_cases hk : 0 < i ∧ 0 ≤ (kcE (l.getD (i - 1) ⟨0, 0, 0, 0, 0⟩) (l.getD i ⟨0, 0, 0, 0, 0⟩)).1
    · exact .inr ⟨rfl, if_pos hk, hk.1, hk.2⟩
    · rw [if_neg hk] at h; exact absurd rfl h
theorem dnn_eta (D : Dn) : Dn.mk D.p D.sent D.used = D := rfl
structure KD where
  k : Nat
  D : Dn
def cA0 : FuncId → Option Spec := look2 [(30, sPCheck), (74, sTakes), (71, sPCopy), (75, sKCmp), (76, rHs)]
theorem cA0_ok : ∀ f S, cA0 f = some S → CallOk Tryz.prog f S := allOk_spec ⟨sPCheck_ok, sTakes_ok, sPCopy_ok, sKCmp_ok, rHs_ok, trivial⟩
theorem nav_evt0 (e : Evt) (pa : List Stp) : nav (evtS e) (.f 0 0 :: pa) = nav (.agg [.int .i64 e.time, .int .i64 e.source, .int .i64 e.seq]) pa := rfl
theorem nav_evt1 (e : Evt) (pa : List Stp) : nav (evtS e) (.f 1 3 :: pa) = nav (.int .i64 e.to_) pa := rfl
theorem nav_evt2 (e : Evt) (pa : List Stp) : nav (evtS e) (.f 2 4 :: pa) = nav (.int .i64 e.value) pa := rfl
theorem all_bad (r : Rul) (p : Prc) (l : List Evt) (p1 p2 p3 p4 : Nat) (hok : ∀ x ∈ p.P, x.ok) (hn : p.P.length ≤ 1000000) (hc : p.cells.length ≤ 1000000) (hpo : p.ports.length ≤ 1000000) (hll : l.length ≤ 200) (i : Nat) (hi : i < l.length) (hE0 : procE r p = 0) (hB : ∀ q, q < i → badAt p l q = 0) (hb : badAt p l i ≠ 0) : LitOk Tryz.prog 24 [.agg [.int .u64 r.seed, .int .i64 r.ahead, .int .i64 r.fuel], .agg [.int .i64 p.id, .sl 1 2 [] 5 0 p.P.length (some p1), .sl 3 4 [] 1 0 p.cells.length (some p2), .int .i64 p.draws, .int .i64 p.seq, .sl 5 6 [] 1 0 p.ports.length (some p3)], .sl 7 8 [] 5 0 l.length (some p4)]
    [.gone, .gone, .ro (.arr p.P.length 5 (prS p.P)), .gone, .ro (.arr p.cells.length 1 (i64S p.cells)), .gone, .ro (.arr p.ports.length 1 (i64S p.ports)), .gone, .ro (.arr l.length 5 (evtsS l))]
    (.tup [dn0, .nat .i64 i, .int .i64 (badAt p l i)]) [.gone] := by

  refine litOkM (fn := Tryz.f24) 9 80 0 rfl rfl rfl rfl rfl (by simp only [StableL, Stable, hp, pcS, dnB, DnI.at_, dnS, dnR, i64S, prS, insS, sndsS, sndS, evtsS, evtS, prO, i64O, inO, evO_, cB, sB, HB.stable]; simp [HB.born, evtS]) rfl fun w0 M E hro => ?_
  repeat' (first | refine Ctl.h ?_ | ((with_reducible intro hif); first | (focus (cases hif; done)) | (simp only [JH] at hif; try (exfalso; omega)) | (try (exfalso; omega))) | ((first | ((with_reducible apply J22 cA0_ok tab_ok); (· rfl)) | ((with_reducible apply J23 fol cA0_ok tab_ok); (· rfl)) | with_reducible apply J24); (· (simp only [push_cast, ↓JP, Nat.reduceAdd, Nat.reduceEqDiff, Nat.reduceLT, Nat.reduceMul, Nat.reduceLeDiff, reduceCtorEq, reduceIte, ↓JK, JE, prc_eta, cA0, sPCheck, sTakes, sPCopy, sKCmp, rHs, pcS, prO, i64O, inO, evm_ev, rHaB, rHaG, donP, dnI, isIns_insS, isI_int, isEvt_evtS, evtOf_evtS, ls_evtsS, ls_evtsS', nodupN, memN, inR, inN, ↓evtS_sz, ↓evtS_ag, ↓evtS_pl, nav_evt, nav_evt0, nav_evt1, nav_evt2, rul_eta, ls_zero, JB, dnS, dnR, dnB, evO_, dn0, evtsS, hE0]; rfl)); (try kernel_rfl); (try exact Vm.b116)) | fail)
  refine WF.loopAt (fun (j : Nat) => j ≤ i) (fun (j : Nat) => [(2, .sl 7 8 [] 5 0 l.length (some p4)), (3, .ptr 9 []), (4, .ptr 10 []), (6, .ptr 11 []), (26, .sl 7 8 [] 5 0 l.length (some p4)), (27, .nat .i64 l.length), (28, .nat .i64 j)]) (fun (j : Nat) => [.gone, .gone, .ro (.arr p.P.length 5 (prS p.P)), .gone, .ro (.arr p.cells.length 1 (i64S p.cells)), .gone, .ro (.arr p.ports.length 1 (i64S p.ports)), .gone, .ro (.arr l.length 5 (evtsS l)), .own 65 (.agg [.int .u64 r.seed, .int .i64 r.ahead, .int .i64 r.fuel]) true, .own 67 (.agg [.int .i64 p.id, .sl 1 2 [] 5 0 p.P.length (some p1), .sl 3 4 [] 1 0 p.cells.length (some p2), .int .i64 p.draws, .int .i64 p.seq, .sl 5 6 [] 1 0 p.ports.length (some p3)]) true, .own 82 dn0 true]) (fun (j : Nat) => i - j) 0 (Nat.zero_le _) ?_ ?_ rfl ?_ ?_ rfl ?_
  · exact Vm.b5
  · exact Vm.b6
  · exact Vm.b112
  · exact Vm.b112
  intro j hj
  by_cases hji : j < i
  · have hbj := hB j hji
    have hjl : j < l.length := by omega
    obtain ⟨hT, hK⟩ := badAt_zero hbj
    by_cases hj0 : 0 < j
    · have hK := hK hj0
      have hjm : ((j : Int) - 1).toNat = j - 1 := by omega
      repeat' (first | refine Ctl.h ?_ | ((with_reducible intro hif); first | (focus (cases hif; done)) | (simp only [JH] at hif; try (exfalso; omega)) | (try (exfalso; omega))) | ((first | ((with_reducible apply J22 cA0_ok tab_ok); (· rfl)) | ((with_reducible apply J23 fol cA0_ok tab_ok); (· rfl)) | with_reducible apply J24); (· (simp only [push_cast, ↓JP, Nat.reduceAdd, Nat.reduceEqDiff, Nat.reduceLT, Nat.reduceMul, Nat.reduceLeDiff, reduceCtorEq, reduceIte, ↓JK, JE, prc_eta, cA0, sPCheck, sTakes, sPCopy, sKCmp, rHs, pcS, prO, i64O, inO, evm_ev, rHaB, rHaG, donP, dnI, isIns_insS, isI_int, isEvt_evtS, evtOf_evtS, ls_evtsS, ls_evtsS', nodupN, memN, inR, inN, ↓evtS_sz, ↓evtS_ag, ↓evtS_pl, nav_evt, nav_evt0, nav_evt1, nav_evt2, rul_eta, ls_zero, JB, dnS, dnR, dnB, evO_, dn0, evtsS, hjl, hT, hj0, hjm, hK]; rfl)); (try kernel_rfl); (try exact Vm.b116)) | fail)
      refine At.next (j + 1) ?_ ?_ ?_ rfl ?_ ?_ rfl
      · omega
      · exact Vm.b5
      · exact Vm.b6
      · exact Vm.b112
      · exact Vm.b112
    · obtain rfl : j = 0 := by omega
      repeat' (first | refine Ctl.h ?_ | ((with_reducible intro hif); first | (focus (cases hif; done)) | (simp only [JH] at hif; try (exfalso; omega)) | (try (exfalso; omega))) | ((first | ((with_reducible apply J22 cA0_ok tab_ok); (· rfl)) | ((with_reducible apply J23 fol cA0_ok tab_ok); (· rfl)) | with_reducible apply J24); (· (simp only [push_cast, ↓JP, Nat.reduceAdd, Nat.reduceEqDiff, Nat.reduceLT, Nat.reduceMul, Nat.reduceLeDiff, reduceCtorEq, reduceIte, ↓JK, JE, prc_eta, cA0, sPCheck, sTakes, sPCopy, sKCmp, rHs, pcS, prO, i64O, inO, evm_ev, rHaB, rHaG, donP, dnI, isIns_insS, isI_int, isEvt_evtS, evtOf_evtS, ls_evtsS, ls_evtsS', nodupN, memN, inR, inN, ↓evtS_sz, ↓evtS_ag, ↓evtS_pl, nav_evt, nav_evt0, nav_evt1, nav_evt2, rul_eta, ls_zero, JB, dnS, dnR, dnB, evO_, dn0, evtsS, hjl, hT]; rfl)); (try kernel_rfl); (try exact Vm.b116)) | fail)
      refine At.next (0 + 1) ?_ ?_ ?_ rfl ?_ ?_ rfl
      · omega
      · exact Vm.b5
      · exact Vm.b6
      · exact Vm.b112
      · exact Vm.b112
  · obtain rfl : j = i := by omega
    rcases badAt_not hb with ⟨hT, hv⟩ | ⟨hT, hv, hj0, hK⟩
    · skip
      repeat' (first | refine Ctl.h ?_ | ((with_reducible intro hif); first | (focus (cases hif; done)) | (simp only [JH] at hif; try (exfalso; omega)) | (try (exfalso; omega))) | ((first | ((with_reducible apply J22 cA0_ok tab_ok); (· rfl)) | ((with_reducible apply J23 fol cA0_ok tab_ok); (· rfl)) | with_reducible apply J24); (· (simp only [push_cast, ↓JP, Nat.reduceAdd, Nat.reduceEqDiff, Nat.reduceLT, Nat.reduceMul, Nat.reduceLeDiff, reduceCtorEq, reduceIte, ↓JK, JE, prc_eta, cA0, sPCheck, sTakes, sPCopy, sKCmp, rHs, pcS, prO, i64O, inO, evm_ev, rHaB, rHaG, donP, dnI, isIns_insS, isI_int, isEvt_evtS, evtOf_evtS, ls_evtsS, ls_evtsS', nodupN, memN, inR, inN, ↓evtS_sz, ↓evtS_ag, ↓evtS_pl, nav_evt, nav_evt0, nav_evt1, nav_evt2, rul_eta, ls_zero, JB, dnS, dnR, dnB, evO_, dn0, evtsS, hi, hT]; rfl)); (try kernel_rfl); (try exact Vm.b116)) | fail)
      apply At.endsRet tab_ok (fn := Tryz.f24) (rs := [.cell 6 82, .tmp 7, .tmp 8]) Anc.refl hro (Nat.le_of_ble_eq_true rfl) rfl
      · exact Vm.b11
      · exact Vm.b9
      · exact Vm.b6
      · rfl
      · exact Vm.b112
      · exact Vm.b10
      · rw [hv]; exact fun β => rfl
      · exact Vm.b112
    · have hjm : ((j : Int) - 1).toNat = j - 1 := by omega
      repeat' (first | refine Ctl.h ?_ | ((with_reducible intro hif); first | (focus (cases hif; done)) | (simp only [JH] at hif; try (exfalso; omega)) | (try (exfalso; omega))) | ((first | ((with_reducible apply J22 cA0_ok tab_ok); (· rfl)) | ((with_reducible apply J23 fol cA0_ok tab_ok); (· rfl)) | with_reducible apply J24); (· (simp only [push_cast, ↓JP, Nat.reduceAdd, Nat.reduceEqDiff, Nat.reduceLT, Nat.reduceMul, Nat.reduceLeDiff, reduceCtorEq, reduceIte, ↓JK, JE, prc_eta, cA0, sPCheck, sTakes, sPCopy, sKCmp, rHs, pcS, prO, i64O, inO, evm_ev, rHaB, rHaG, donP, dnI, isIns_insS, isI_int, isEvt_evtS, evtOf_evtS, ls_evtsS, ls_evtsS', nodupN, memN, inR, inN, ↓evtS_sz, ↓evtS_ag, ↓evtS_pl, nav_evt, nav_evt0, nav_evt1, nav_evt2, rul_eta, ls_zero, JB, dnS, dnR, dnB, evO_, dn0, evtsS, hi, hT, hj0, hjm, hK]; rfl)); (try kernel_rfl); (try exact Vm.b116)) | fail)
      apply At.endsRet tab_ok (fn := Tryz.f24) (rs := [.cell 6 82, .tmp 7, .tmp 8]) Anc.refl hro (Nat.le_of_ble_eq_true rfl) rfl
      · exact Vm.b11
      · exact Vm.b9
      · exact Vm.b6
      · rfl
      · exact Vm.b112
      · exact Vm.b10
      · rw [hv]; exact fun β => rfl
      · exact Vm.b112
end Go.Proofs.YtjliakjbdcplcaaGreat.Vm
end

section
namespace Go.Proofs.YtjliakjbdcplcaaGreat.Vm
open Go.RowKit
attribute [local push_cast] runR opG gtmp gval gus opX tmpsOf tm tmO tmP restr look look2 tab tys zs ets eqB eqBL allB numOf ieq Int.cast_ofNat_Int Int.ofNat_zero beq_true beq_false frameOf ev evL ofV opV loadV noW pushF wrsL setH allBorn allGone HB.born HB.isGone HB.val SV.plain dstOk hp nav fitsT SV.size sizeL SV.isAgg TK.size TK.agg bin binE binN binI arN arI cmpN cmpI keq kn narrow callV storeV setp fillV buildV buildSliceV makeV sliceV appendV appendFV slice3V copyV List.isEmpty_nil srcV evO asN ite_t ite_f ite_bool ite_int ite_nat maxV v_beq v_ble v_blt cond_true cond_false List.getElem?_cons_zero List.getElem?_cons_succ List.getD_cons_zero List.getD_cons_succ List.getD_nil List.length_cons List.length_nil List.take_succ_cons List.take_zero List.set_cons_zero List.set_cons_succ List.cons_append List.nil_append List.append_assoc List.replicate_succ List.replicate_zero Nat.zero_add Nat.add_zero decide_true decide_false Bool.true_and Bool.and_true Bool.false_and Bool.and_false Bool.true_or Bool.or_true Bool.false_or Bool.or_false beq_self_eq_true Bool.or_self Nat.lt_irrefl Nat.not_lt_zero Nat.le_refl Option.getD_some Option.getD_none BEq.rfl Bool.not_true Bool.not_false Bool.cond_true_left Bool.cond_false_right prS sndsS i64S nav_ins nav_ins0 nav_ins1 nav_ins2 nav_ins3 nav_ins4 nav_snd nav_snd0 nav_snd1 nav_snd2 isIns_insS insOf_insS isSnd_sndS sndOf_sndS isI_int isI_nat iOf JM JE JB sMd18N sMd18S sMd14 inR inN u8S esS esA
set_option linter.unusedVariables false
set_option linter.unusedSimpArgs false
set_option maxRecDepth 100000
set_option maxHeartbeats 4000000
theorem less_appI {t n : Nat} {σ : Nat → Nat} (S : List Int) (x : Int) (hn : S.length = n) {g : Nat → SV} {xv z : SV} (hg : g = fun q => SV.ite (decide (q < n)) (i64S S q) ([xv].getD (q - n) z)) (hx : ∀ β, xv.cl β = [.int .i64 x]) :
    Less (.own t (.arr (n + 1) 1 g) false) ((HB.own t (.arr (n + 1) 1 (i64S (S ++ [x]))) false).ren σ) := by
  have e : (HB.own t (.arr (n + 1) 1 (i64S (S ++ [x]))) false).ren σ = .own t (.arr (n + 1) 1 (i64S (S ++ [x]))) false := rfl
  rw [e]
  refine .val (fun β => arrCl fun q hq => ?_) (fun n1 k1 f1 e => by injection e with e1 e2 e3; subst e1 e2; exact ⟨_, rfl⟩) (fun n1 k1 f1 e => by injection e with e1 e2 e3; subst e1 e2; exact ⟨_, rfl⟩)
  subst hg hn
  dsimp only
  rw [ite_eq]
  by_cases h : q < S.length
  · simp only [h, decide_true, cond_true]
    unfold i64S
    rw [List.getD_eq_getElem?_getD, List.getD_eq_getElem?_getD, List.getElem?_append_left h]
  · have hq' : q = S.length := by omega
    subst hq'
    simp only [h, decide_false, cond_false, Nat.sub_self, List.getD_cons_zero, hx]
    unfold i64S
    rw [List.getD_eq_getElem?_getD, List.getElem?_append_right (Nat.le_refl _), Nat.sub_self]; rfl
end Go.Proofs.YtjliakjbdcplcaaGreat.Vm
end

section
namespace Go.Proofs.YtjliakjbdcplcaaGreat.Vm
open Go.RowKit
attribute [local push_cast] runR opG gtmp gval gus opX tmpsOf tm tmO tmP restr look look2 tab tys zs ets eqB eqBL allB numOf ieq Int.cast_ofNat_Int Int.ofNat_zero beq_true beq_false frameOf ev evL ofV opV loadV noW pushF wrsL setH allBorn allGone HB.born HB.isGone HB.val SV.plain dstOk hp nav fitsT SV.size sizeL SV.isAgg TK.size TK.agg bin binE binN binI arN arI cmpN cmpI keq kn narrow callV storeV setp fillV buildV buildSliceV makeV sliceV appendV appendFV slice3V copyV List.isEmpty_nil srcV evO asN ite_t ite_f ite_bool ite_int ite_nat maxV v_beq v_ble v_blt cond_true cond_false List.getElem?_cons_zero List.getElem?_cons_succ List.getD_cons_zero List.getD_cons_succ List.getD_nil List.length_cons List.length_nil List.take_succ_cons List.take_zero List.set_cons_zero List.set_cons_succ List.cons_append List.nil_append List.append_assoc List.replicate_succ List.replicate_zero Nat.zero_add Nat.add_zero decide_true decide_false Bool.true_and Bool.and_true Bool.false_and Bool.and_false Bool.true_or Bool.or_true Bool.false_or Bool.or_false beq_self_eq_true Bool.or_self Nat.lt_irrefl Nat.not_lt_zero Nat.le_refl Option.getD_some Option.getD_none BEq.rfl Bool.not_true Bool.not_false Bool.cond_true_left Bool.cond_false_right
set_option linter.unusedVariables false
set_option linter.unusedSimpArgs false
set_option maxRecDepth 100000
set_option maxHeartbeats 4000000
end Go.Proofs.YtjliakjbdcplcaaGreat.Vm
end

section
namespace Go.Proofs.YtjliakjbdcplcaaGreat.Vm
open Go.RowKit
set_option linter.unusedVariables false
set_option linter.unusedSimpArgs false
set_option maxRecDepth 100000
set_option maxHeartbeats 4000000
def sAllB (i : Nat) : Spec := fun args h m => match args with
  | [.agg [v1, v2, v3], .agg [v4, v5, v6, v7, v8, v9], v10] => match srcV h 5 (.tup []) v5, srcV h 1 (.tup []) v6, srcV h 1 (.tup []) v9, srcV h 5 (.tup []) v10 with
    | some (c5, n5, f5, r5), some (c6, n6, f6, r6), some (c9, n9, f9, r9), some (c10, n10, f10, r10) => bif isI .u64 v1 && isI .i64 v2 && isI .i64 v3 && isI .i64 v4 && isI .i64 v7 && isI .i64 v8 then some (c5 ∧ c6 ∧ c9 ∧ c10 ∧ (∀ q, q < n5 → isIns (f5 q) = true) ∧ (∀ q, q < n6 → isI .i64 (f6 q) = true) ∧ (∀ q, q < n9 → isI .i64 (f9 q) = true) ∧ (∀ q, q < n10 → isEvt (f10 q) = true) ∧ ((∀ x ∈ (ls insOf n5 f5), x.ok)) ∧ (n5 ≤ 1000000) ∧ (n6 ≤ 1000000) ∧ (n9 ≤ 1000000) ∧ (n10 ≤ 200) ∧ (i < (ls evtOf n10 f10).length) ∧ (procE ⟨(iOf v1), (iOf v2), (iOf v3)⟩ ⟨(iOf v4), (ls insOf n5 f5), (ls iOf n6 f6), (iOf v7), (iOf v8), (ls iOf n9 f9)⟩ = 0) ∧ ((∀ q, q < i → badAt ⟨(iOf v4), (ls insOf n5 f5), (ls iOf n6 f6), (iOf v7), (iOf v8), (ls iOf n9 f9)⟩ (ls evtOf n10 f10) q = 0)) ∧ (badAt ⟨(iOf v4), (ls insOf n5 f5), (ls iOf n6 f6), (iOf v7), (iOf v8), (ls iOf n9 f9)⟩ (ls evtOf n10 f10) i ≠ 0), .tup [dn0, .nat .i64 i, .int .i64 (badAt ⟨(iOf v4), (ls insOf n5 f5), (ls iOf n6 f6), (iOf v7), (iOf v8), (ls iOf n9 f9)⟩ (ls evtOf n10 f10) i)], r5 ++ r6 ++ r9 ++ r10, []) else none
    | _, _, _, _ => none
  | _ => none
theorem sAllB_ok (i : Nat) : CallOk Tryz.prog 24 (sAllB i) := by
  refine ⟨named_spec (by kernel_rfl), fun args h m c v rd wr hs hm hc w0 M β h' w R hrd hwr hst => ?_⟩
  unfold sAllB at hs
  split at hs
  · rename_i v1 v2 v3 v4 v5 v6 v7 v8 v9 v10
    split at hs
    · rename_i c5 n5 f5 r5 c6 n6 f6 r6 c9 n9 f9 r9 c10 n10 f10 r10 a5 a6 a9 a10
      obtain ⟨hb, hs⟩ := bif_some hs
      simp only [Option.some.injEq, Prod.mk.injEq] at hs
      obtain ⟨rfl, rfl, rfl, rfl⟩ := hs
      simp only [Bool.and_eq_true] at hb
      obtain ⟨⟨⟨⟨⟨b1, b2⟩, b3⟩, b4⟩, b7⟩, b8⟩ := hb
      obtain ⟨k5, k6, k9, k10, g5, g6, g9, g10, y1, y2, y3, y4, y5, y6, y7, y8, y9⟩ := hc
      obtain ⟨A5, p5, d5, e5, t5⟩ := reads_src R a5 k5 (fun i hi => hrd i (List.mem_append_left _ (List.mem_append_left _ (List.mem_append_left _ hi)))) (by omega)
      obtain ⟨A6, p6, d6, e6, t6⟩ := reads_src R a6 k6 (fun i hi => hrd i (List.mem_append_left _ (List.mem_append_left _ (List.mem_append_right _ hi)))) (by omega)
      obtain ⟨A9, p9, d9, e9, t9⟩ := reads_src R a9 k9 (fun i hi => hrd i (List.mem_append_left _ (List.mem_append_right _ hi))) (by omega)
      obtain ⟨A10, p10, d10, e10, t10⟩ := reads_src R a10 k10 (fun i hi => hrd i (List.mem_append_right _ hi)) (by omega)
      refine callRo (views := [⟨5, (ls insOf n5 f5).length, prS (ls insOf n5 f5), A5, p5⟩, ⟨1, (ls iOf n6 f6).length, i64S (ls iOf n6 f6), A6, p6⟩, ⟨1, (ls iOf n9 f9).length, i64S (ls iOf n9 f9), A9, p9⟩, ⟨5, (ls evtOf n10 f10).length, evtsS (ls evtOf n10 f10), A10, p10⟩]) (all_bad ⟨(iOf v1), (iOf v2), (iOf v3)⟩ ⟨(iOf v4), (ls insOf n5 f5), (ls iOf n6 f6), (iOf v7), (iOf v8), (ls iOf n9 f9)⟩ (ls evtOf n10 f10) p5 p6 p9 p10 y1 (by rw [ls_length]; exact y2) (by rw [ls_length]; exact y3) (by rw [ls_length]; exact y4) (by rw [ls_length]; exact y5) i y6 y7 y8 y9) ?_ R hm hwr ?_ ?_ ?_
      · intro x hx
        simp only [List.mem_cons, List.not_mem_nil, or_false] at hx
        rcases hx with rfl | rfl | rfl | rfl
        · exact viewIns t5 e5 g5
        · exact viewI64 t6 e6 g6
        · exact viewI64 t9 e9 g9
        · exact viewEvt t10 e10 g10
      · intro β1 hv
        simp only [Vd, ls_length, and_true] at hv
        obtain ⟨z5, z6, z9, z10⟩ := hv
        simp only [denL, aggDen, intDen, natDen, boolDen, ls_length, z5, z6, z9, z10, d5, d6, d9, d10, isI_den b1, isI_den b2, isI_den b3, isI_den b4, isI_den b7, isI_den b8]
      · exact Vm.b112
      · exact Vm.b112
    · cases hs
  · cases hs
def cNw28 : FuncId → Option Spec := look2 [(34, sClI), (54, sClN), (80, sPRight)]
theorem cNw28_ok : ∀ f S, cNw28 f = some S → CallOk Tryz.prog f S := allOk_spec ⟨sClI_ok, sClN_ok, sPRight_ok, trivial⟩
def newP (id : Int) (P : List Ins) (c : Nat) (ps : List Int) : Prc := ⟨id, P, List.replicate c 0, 0, 0, ps⟩
def pc0 : SV := .agg [.nat .i64 0, .sl 0 0 [] 0 0 0 (some 0), .sl 0 0 [] 0 0 0 (some 0), .nat .i64 0, .nat .i64 0, .sl 0 0 [] 0 0 0 (some 0)]
theorem ls_zero_rep (n : Nat) : ls iOf n (fun _ => SV.nat .i64 0) = List.replicate n 0 := by
  unfold ls
  simp [iOf, List.map_const']
theorem less_rep {t n : Nat} {σ : Nat → Nat} : Less (.own t (.arr n 1 fun _ => .nat .i64 0) false) ((HB.own t (.arr (List.replicate n (0 : Int)).length 1 (i64S (List.replicate n 0))) false).ren σ) := by
  rw [List.length_replicate]
  have e : (HB.own t (.arr n 1 (i64S (List.replicate n 0))) false).ren σ = .own t (.arr n 1 (i64S (List.replicate n 0))) false := rfl
  rw [e]
  exact .val (fun β => arrCl fun q hq => by
      unfold i64S
      rw [List.getD_eq_getElem?_getD, List.getElem?_eq_getElem (by simpa using hq)]
      simp; rfl) (fun n1 k1 f1 e => by injection e with e1 e2 e3; subst e1 e2; exact ⟨_, rfl⟩) (fun n1 k1 f1 e => by injection e with e1 e2 e3; subst e1 e2; exact ⟨_, rfl⟩)
theorem newP_bad (id : Int) (c : Nat) (P : List Ins) (ps : List Int) (p1 p2 : Nat) (hok : ∀ x ∈ P, x.ok) (hn : P.length ≤ 1000000) (hpo : ps.length ≤ 1000000) (c1 : c ≤ 1024) (hr : (newP id P c ps).rightB = false) : LitOk Tryz.prog 55 [.int .i64 id, .sl 1 2 [] 5 0 P.length (some p1), .nat .i64 c, .sl 3 4 [] 1 0 ps.length (some p2)] [.gone, .gone, .ro (.arr P.length 5 (prS P)), .gone, .ro (.arr ps.length 1 (i64S ps))] (.tup [pc0, .int .i64 281]) [.gone] := by
  have h2 : ¬ 1024 < c := by omega
  have hr' : Prc.rightB ⟨id, P, List.replicate c 0, 0, 0, ps⟩ = false := hr
  refine litOkM (fn := Tryz.f55) 5 31 0 rfl rfl rfl rfl rfl (by simp only [StableL, Stable, hp, pcS, dnB, DnI.at_, dnS, dnR, i64S, prS, insS, sndsS, sndS, evtsS, evtS, prO, i64O, inO, evO_, cB, sB, HB.stable]; simp [HB.born]) rfl fun w0 M E hro => ?_
  repeat' (first | refine Ctl.h ?_ | ((with_reducible intro hif); first | (focus (cases hif; done)) | (simp only [JH] at hif; try (exfalso; omega)) | (try (exfalso; omega))) | ((first | ((with_reducible apply J22 cNw28_ok tab_ok); (· rfl)) | ((with_reducible apply J23 fol cNw28_ok tab_ok); (· rfl)) | with_reducible apply J24); (· exact Vm.b118); (try kernel_rfl); (try exact Vm.b117)) | fail)
  apply At.endsRet tab_ok (fn := Tryz.f55) (rs := [.cell 8 67, .tmp 9]) Anc.refl hro (Nat.le_of_ble_eq_true rfl) rfl
  · exact Vm.b11
  · exact Vm.b9
  · exact Vm.b6
  · rfl
  · exact Vm.b112
  · exact Vm.b10
  · exact fun β => rfl
  · exact Vm.b112
theorem new_ok (id : Int) (c : Nat) (P : List Ins) (ps : List Int) (p1 p2 : Nat) (hok : ∀ x ∈ P, x.ok) (hn : P.length ≤ 1000000) (hpo : ps.length ≤ 1000000) (c1 : c ≤ 1024) (hr : (newP id P c ps).rightB = true) : LitOk Tryz.prog 55 [.int .i64 id, .sl 1 2 [] 5 0 P.length (some p1), .nat .i64 c, .sl 3 4 [] 1 0 ps.length (some p2)] [.gone, .gone, .ro (.arr P.length 5 (prS P)), .gone, .ro (.arr ps.length 1 (i64S ps))] (.tup [pcS (newP id P c ps) 5 6 7, .int .i64 0]) [.gone, .gone, .gone, .gone, .gone, prO P, i64O (newP id P c ps).cells, inO ps] := by
  have h2 : ¬ 1024 < c := by omega
  have hr' : Prc.rightB ⟨id, P, List.replicate c 0, 0, 0, ps⟩ = true := hr
  refine litOkM (fn := Tryz.f55) 5 31 0 rfl rfl rfl rfl rfl (by simp only [StableL, Stable, hp, pcS, dnB, DnI.at_, dnS, dnR, i64S, prS, insS, sndsS, sndS, evtsS, evtS, prO, i64O, inO, evO_, cB, sB, HB.stable]; simp [HB.born]) rfl fun w0 M E hro => ?_
  repeat' (first | refine Ctl.h ?_ | ((with_reducible intro hif); first | (focus (cases hif; done)) | (simp only [JH] at hif; try (exfalso; omega)) | (try (exfalso; omega))) | ((first | ((with_reducible apply J22 cNw28_ok tab_ok); (· rfl)) | ((with_reducible apply J23 fol cNw28_ok tab_ok); (· rfl)) | with_reducible apply J24); (· exact Vm.b118); (try kernel_rfl); (try exact Vm.b117)) | fail)
  refine At.put 7 (.own 2 (.arr c 1 fun _ => .nat .i64 0) false) .loose (fun q => trivial) rfl rfl ?_
  simp only [setH]
  apply At.endsPick [0, 1, 2, 3, 4, 6, 7, 8] tab_ok (fn := Tryz.f55) (rs := [.cell 8 67, .tmp 9]) Anc.refl hro (Nat.le_of_ble_eq_true rfl) rfl
  · exact Vm.b11
  · exact Vm.b26
  · rfl
  · rfl
  · rfl
  · (repeat' (first | exact trivial | exact .inl rfl | exact .inr (.same _) | exact .inr .loose | exact .inr (.arr (by assumption)) | apply And.intro | exact .inr less_rep))
  · rfl
  · exact Vm.b112
  · exact Vm.b10
  · intro β; simp only [pcS, newP, List.length_replicate]; rfl
  · exact Vm.b112
def sNewPG : Spec := fun args h m => match args with
  | [v1, v2, .nat q3 v3, v4] => match srcV h 5 (.tup []) v2, srcV h 1 (.tup []) v4 with
    | some (c2, n2, f2, r2), some (c4, n4, f4, r4) => bif isI .i64 v1 && keq q3 .i64 then some (c2 ∧ c4 ∧ (∀ q, q < n2 → isIns (f2 q) = true) ∧ (∀ q, q < n4 → isI .i64 (f4 q) = true) ∧ ((∀ x ∈ (ls insOf n2 f2), x.ok)) ∧ (n2 ≤ 1000000) ∧ (n4 ≤ 1000000) ∧ (v3 ≤ 1024) ∧ ((newP (iOf v1) (ls insOf n2 f2) v3 (ls iOf n4 f4)).rightB = true), .tup [pcS (newP (iOf v1) (ls insOf n2 f2) v3 (ls iOf n4 f4)) m (m + 1) (m + 2), .int .i64 0], r2 ++ r4, [(m, prO (ls insOf n2 f2)), (m + 1, i64O (newP (iOf v1) (ls insOf n2 f2) v3 (ls iOf n4 f4)).cells), (m + 2, inO (ls iOf n4 f4))]) else none
    | _, _ => none
  | _ => none
theorem sNewPG_ok : CallOk Tryz.prog 55 sNewPG := by
  refine ⟨named_spec (by kernel_rfl), fun args h m c v rd wr hs hm hc w0 M β h' w R hrd hwr hst => ?_⟩
  unfold sNewPG at hs
  split at hs
  · rename_i v1 v2 q3 v3 v4
    split at hs
    · rename_i c2 n2 f2 r2 c4 n4 f4 r4 a2 a4
      obtain ⟨hb, hs⟩ := bif_some hs
      simp only [Option.some.injEq, Prod.mk.injEq] at hs
      obtain ⟨rfl, rfl, rfl, rfl⟩ := hs
      simp only [Bool.and_eq_true] at hb
      obtain ⟨b1, b3⟩ := hb
      have w3 := keq_eq b3
      subst w3
      obtain ⟨k2, k4, g2, g4, y1, y2, y3, y4, y5⟩ := hc
      obtain ⟨A2, p2, d2, e2, t2⟩ := reads_src R a2 k2 (fun i hi => hrd i (List.mem_append_left _ hi)) (by omega)
      obtain ⟨A4, p4, d4, e4, t4⟩ := reads_src R a4 k4 (fun i hi => hrd i (List.mem_append_right _ hi)) (by omega)
      refine callRo (views := [⟨5, (ls insOf n2 f2).length, prS (ls insOf n2 f2), A2, p2⟩, ⟨1, (ls iOf n4 f4).length, i64S (ls iOf n4 f4), A4, p4⟩]) (new_ok (iOf v1) v3 (ls insOf n2 f2) (ls iOf n4 f4) p2 p4 y1 (by rw [ls_length]; exact y2) (by rw [ls_length]; exact y3) y4 y5) ?_ R hm hwr ?_ ?_ ?_
      · intro x hx
        simp only [List.mem_cons, List.not_mem_nil, or_false] at hx
        rcases hx with rfl | rfl
        · exact viewIns t2 e2 g2
        · exact viewI64 t4 e4 g4
      · intro β1 hv
        simp only [Vd, ls_length, and_true] at hv
        obtain ⟨z2, z4⟩ := hv
        simp only [denL, aggDen, intDen, natDen, boolDen, ls_length, z2, z4, d2, d4, isI_den b1]
      · exact Vm.b112
      · exact Vm.b112
    · cases hs
  · cases hs
theorem ls_evtsS2 (l : List Evt) : ls evtOf l.length (fun q => evtS (l.getD q ⟨0, 0, 0, 0, 0⟩)) = l := ls_evtsS l
end Go.Proofs.YtjliakjbdcplcaaGreat.Vm
end
end

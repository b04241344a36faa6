import Derived.Test.YtjliakjbdcplcaaGreatT3
import Derived.Test.YtjliakjbdcplcaaGreatT4
import Derived.Test.YtjliakjbdcplcaaGreatT5
import Derived.Test.YtjliakjbdcplcaaGreatT6
import Derived.Test.YtjliakjbdcplcaaGreatT8
import Derived.Test.YtjliakjbdcplcaaGreatT9
import Derived.Test.YtjliakjbdcplcaaGreatT10
import Derived.Test.YtjliakjbdcplcaaGreatProg
import Derived.IntWalk
import Derived.WalkSpells
set_option linter.unusedSimpArgs false
set_option linter.unusedVariables false
set_option maxRecDepth 100000
set_option maxHeartbeats 4000000
section
namespace Go.Proofs.YtjliakjbdcplcaaGreat.Vm
theorem u13_ {P : Prop} (h : P := by simp only [zd_, Stable, hp, i64S, prS, yo_, zn_, sndS, evS, sr, csl, ssl, y2_, nilS, cRf, sRf, trO]; simp [HB.born]) : P := h
theorem u14_ {P : Prop} (h : P := by simp only [zd_, Stable, hp, i64S, prS, yo_, zn_, sndS, stS, evS, macS]; simp [HB.born]) : P := h
theorem k96_ {P : Prop} (h : P := by (repeat' (first | exact trivial | exact rfl | assumption | apply Stable.ite | apply And.intro | intro _ | (simp only [Stable, zd_, i64S, prS, yo_, zn_, sndS, evS, sr, y2_, nilS, cRf, sRf, trO]; done)))) : P := h
theorem k97_ {P : Prop} (h : P := by exact ⟨H.step hP V rfl hkf xi hxi hE true false _ (by simp [h6]) (by simp [h6]) (congrArg List.length eS), by show f.toNat - (tr.length + 1) < f.toNat - tr.length; omega⟩) : P := h
theorem k98_ {P : Prop} (h : P := by (repeat' (first | exact trivial | exact .inl rfl | exact .inr (.same _) | exact .inr .loose | exact .inr (.arr (by assumption)) | apply And.intro | (exact .inr (less_tr1 _ _ rfl (fun β => rfl))) | (exact .inr (less_i64n eC.symm rfl)) | (exact .inr (less_sndn (congrArg List.length eS).symm eS.symm))))) : P := h
theorem k99_ {P : Prop} (h : P := by exact ⟨H.step hP V rfl hkf xi hxi hE true true _ (by simp [h6]) (by simp [h6]) (congrArg List.length eS), by show f.toNat - (tr.length + 1) < f.toNat - tr.length; omega⟩) : P := h
theorem k100_ {P : Prop} (h : P := by exact ⟨H.step hP V rfl hkf xi hxi hE false true _ (by simp [h6, h8]) (by simp [h6, h8]) eS, by show f.toNat - (tr.length + 1) < f.toNat - tr.length; omega⟩) : P := h
theorem k101_ {P : Prop} (h : P := by (repeat' (first | exact trivial | exact .inl rfl | exact .inr (.same _) | exact .inr .loose | exact .inr (.arr (by assumption)) | apply And.intro | (exact .inr (less_tr1 _ _ rfl (fun β => rfl))) | (exact .inr (less_i64n eC.symm eC2.symm)) | (exact .inr (less_sndn eS.symm rfl))))) : P := h
theorem k102_ {P : Prop} (h : P := by exact ⟨H.step hP V rfl hkf xi hxi hE true true _ (by simp [h6, h8]) (by simp [h6, h8]) eS, by show f.toNat - (tr.length + 1) < f.toNat - tr.length; omega⟩) : P := h
theorem k103_ {P : Prop} (h : P := by (repeat' (first | exact trivial | exact .inl rfl | exact .inr (.same _) | exact .inr .loose | exact .inr (.arr (by assumption)) | apply And.intro | (exact .inr (less_tr1 _ _ rfl (fun β => rfl))) | (exact .inr (less_i64n eC.symm eC2.symm)) | (exact .inr (less_sndn (congrArg List.length eS).symm eS.symm))))) : P := h
theorem k104_ {P : Prop} (h : P := by (repeat' (first | exact trivial | exact rfl | assumption | apply Stable.ite | apply And.intro | intro _ | (simp only [Stable, zd_, i64S, prS, yo_, zn_, sndS, evS, sr, csl, ssl, y2_, nilS, cRf, sRf, trO]; done)))) : P := h
theorem k105_ {P : Prop} (h : P := by (repeat' (first | exact trivial | exact rfl | assumption | apply Stable.ite | apply And.intro | intro _ | (simp only [Stable, zd_, i64S, prS, yo_, zn_, sndS, prT, HB.stable]; done)))) : P := h
theorem k106_ {P : Prop} (h : P := by (repeat' (first | exact trivial | exact .inl rfl | exact .inr (.same _) | exact .inr .loose | exact .inr (.arr (by assumption)) | apply And.intro | (exact .inr (.same _))))) : P := h
theorem k107_ {P : Prop} (h : P := by (repeat' (first | exact trivial | exact rfl | assumption | apply Stable.ite | apply And.intro | intro _ | (simp only [Stable, zd_, i64S, prS, yo_, zn_, sndS, prT, cRf, sRf, sr, HB.stable]; done)))) : P := h
theorem k108_ {P : Prop} (h : P := by (first | exact True.intro | ((try simp only [y6_, yy_, ls_sndsS, ls_sndsS', zb_]); (repeat' (first | exact True.intro | exact hK | exact hE | apply And.intro | rfl | omega | assumption | decide | intro _)); done) | ((try simp only [JS, implies_true, forall_const, z9_, z2_, kndOf, inR, inN]); (repeat' (first | assumption | exact True.intro | omega | apply And.intro)); done))) : P := h
theorem k109_ {P : Prop} (h : P := by (first | exact True.intro | ((try simp only [JE, iOf, begin_R, begin_R', hs0', xh_, ls_nil, zb_]); (repeat' (first | exact True.intro | exact hok | assumption | apply And.intro | rfl | omega | decide | intro _)); done) | ((try simp only [JS, implies_true, forall_const, z9_, z2_, kndOf, inR, inN]); (repeat' (first | assumption | exact True.intro | omega | apply And.intro)); done))) : P := h
theorem k110_ {P : Prop} (h : P := by (simp only [push_cast, ↓JP, Nat.reduceAdd, Nat.reduceEqDiff, Nat.reduceLT, Nat.reduceMul, Nat.reduceLeDiff, reduceCtorEq, reduceIte, ↓JK, JM, JE, inR, inN]; rfl)) : P := h
theorem k111_ {P : Prop} (h : P := by (simp only [push_cast, ↓JP, Nat.reduceAdd, Nat.reduceEqDiff, Nat.reduceLT, Nat.reduceMul, Nat.reduceLeDiff, reduceCtorEq, reduceIte, ↓JK, hjl, List.take_length]; rfl)) : P := h
end Go.Proofs.YtjliakjbdcplcaaGreat.Vm
end
section
namespace Go.Proofs.YtjliakjbdcplcaaGreat.Vm
open Go.RowKit
def sRt18 : yq_ := fun args h m => match args with
 | [v1, .agg [v2, v3, v4, v5, v6], .agg [v7, .bool v8, .arr 8 1 v9, v10, v11, v12]] => match xa_ h 5 (.tup []) v1, xa_ h 1 (.tup []) v10, xa_ h 3 (.tup []) v12 with
  | some (c1, n1, f1, r1), some (c10, n10, f10, r10), some (c12, n12, f12, r12) => bif isI .u64 v2 && isI .i64 v3 && isI .i64 v4 && isI .i64 v5 && isI .i64 v6 && isI .i64 v7 && isI .i64 v11 then some (c1 ∧ c10 ∧ c12 ∧ (∀ q, q < n1 → isIns (f1 q) = true) ∧ (∀ q, q < n10 → isI .i64 (f10 q) = true) ∧ (∀ q, q < n12 → isSnd (f12 q) = true) ∧ (∀ q, q < 8 → isI .i64 (v9 q) = true) ∧ ((∀ x ∈ (ls zl_ n1 f1), x.ok)) ∧ (n1 ≤ 1000000) ∧ (n10 ≤ 1000000), .int .i64 (yt_ (ls zl_ n1 f1) ⟨(iOf v2), (iOf v3), (iOf v4), (iOf v5), (iOf v6)⟩ ⟨(iOf v7), v8, (fun q => iOf (v9 q)), (ls iOf n10 f10), (iOf v11), (ls zv_ n12 f12)⟩), r1 ++ r10 ++ r12, []) else none
  | _, _, _ => none
 | _ => none
theorem sRt18_ok : zj_ Tryz.prog 39 sRt18 := by
 refine ⟨zf_ (by kernel_rfl), fun args h m c v rd wr hs hm hc w0 M β h' w R hrd hwr hst => ?_⟩
 unfold sRt18 at hs
 split at hs
 ·rename_i v1 v2 v3 v4 v5 v6 v7 v8 v9 v10 v11 v12
  split at hs
  ·rename_i c1 n1 f1 r1 c10 n10 f10 r10 c12 n12 f12 r12 a1 a10 a12
   obtain ⟨hb, hs⟩ := zk_ hs
   simp only [Option.some.injEq, Prod.mk.injEq] at hs
   obtain ⟨rfl, rfl, rfl, rfl⟩ := hs
   simp only [Bool.and_eq_true] at hb
   obtain ⟨⟨⟨⟨⟨⟨b2, b3⟩, b4⟩, b5⟩, b6⟩, b7⟩, b11⟩ := hb
   obtain ⟨k1, k10, k12, g1, g10, g12, g9, y1, y2, y3⟩ := hc
   obtain ⟨A1, p1, d1, e1, t1⟩ := zg_ R a1 k1 (fun i hi => hrd i (List.mem_append_left _ (List.mem_append_left _ hi))) (by omega)
   obtain ⟨A10, p10, d10, e10, t10⟩ := zg_ R a10 k10 (fun i hi => hrd i (List.mem_append_left _ (List.mem_append_right _ hi))) (by omega)
   obtain ⟨A12, p12, d12, e12, t12⟩ := zg_ R a12 k12 (fun i hi => hrd i (List.mem_append_right _ hi)) (by omega)
   refine yf_ (views := [⟨5, (ls zl_ n1 f1).length, prS (ls zl_ n1 f1), A1, p1⟩, ⟨1, (ls iOf n10 f10).length, i64S (ls iOf n10 f10), A10, p10⟩, ⟨3, (ls zv_ n12 f12).length, zn_ (ls zv_ n12 f12), A12, p12⟩]) (right18_lit (ls zl_ n1 f1) ⟨(iOf v2), (iOf v3), (iOf v4), (iOf v5), (iOf v6)⟩ ⟨(iOf v7), v8, (fun q => iOf (v9 q)), (ls iOf n10 f10), (iOf v11), (ls zv_ n12 f12)⟩ p1 p10 p12 y1 (by rw [zb_]; exact y2) (by show List.length (ls _ _ _) ≤ _; rw [zb_]; exact y3)) ?_ R hm hwr ?_ ?_ ?_
   ·intro x hx
    simp only [List.mem_cons, List.not_mem_nil, or_false] at hx
    rcases hx with rfl | rfl | rfl
    ·exact xn_ t1 e1 g1
    ·exact z0_ t10 e10 g10
    ·exact viewSnd t12 e12 g12
   ·intro β1 hv
    simp only [Vd, zb_, and_true] at hv
    obtain ⟨z1, z10, z12⟩ := hv
    simp only [denL, z7_, z6_, z5_, zr_, zb_, yo_, evS, sr, csl, ssl, z1, z10, z12, d1, d10, d12, zc_ b2, zc_ b3, zc_ b4, zc_ b5, zc_ b6, zc_ b7, zc_ b11, ← r8Den (β := β) (β1 := β1) g9]
   ·exact k56_
   ·exact k56_
  ·cases hs
 ·cases hs
def runB (P : List Ins) (v : Evi) : Nat → Sta → Bool → Bool → Bool × Bool
 | 0, _, c, d => (c, d)
 | n + 1, s, c, d => if s.ended = true then (c, d) else
  if xg_ P v s = 0 then runB P v n (xp_ P v s) (c || decide ((insAt P s.at_).op = 6)) (d || decide ((insAt P s.at_).op = 8)) else (c, d)
theorem runB_end {P : List Ins} {v : Evi} {n : Nat} {s : Sta} {c d : Bool} (h : s.ended = true) : runB P v n s c d = (c, d) := by cases n <;> simp [runB, h]
theorem runB_go {P : List Ins} {v : Evi} {n : Nat} {s : Sta} {c d : Bool} (h : s.ended = false) (hn : 0 < n) (he : xg_ P v s = 0) : runB P v n s c d = runB P v (n - 1) (xp_ P v s) (c || decide ((insAt P s.at_).op = 6)) (d || decide ((insAt P s.at_).op = 8)) := by
 obtain ⟨n, rfl⟩ : ∃ k, n = k + 1 := ⟨n - 1, by omega⟩
 simp [runB, h, he]
theorem runB_bad {P : List Ins} {v : Evi} {n : Nat} {s : Sta} {c d : Bool} (h : s.ended = false) (he : xg_ P v s ≠ 0) : runB P v n s c d = (c, d) := by
 cases n
 ·rfl
 ·simp [runB, h, he]
structure FG (P : List Ins) (s : Sta) : Prop where
 sg : SG P s
 rg : ∀ q, R64 (s.regs q)
 cr : CR s
 sd : s.sends.length ≤ 256
theorem FG.ook {P : List Ins} {v : Evi} {s : Sta} (h : FG P s) (hP : PG P) (V : VOk v) : OOk s v (insAt P s.at_) := by
 have R := h.sg.ri hP
 have ⟨o0, o1, a0, a1, b0, b1, c0, c1, n0, n1⟩ := R.ok
 exact ⟨R, V, h.sg.sok hP, h.rg, n0, n1, by have := h.sd; omega⟩
theorem doS_sends {s : Sta} {v : Evi} {x : Ins} (h : s.sends.length ≤ 256) : (doS s v x).sends.length ≤ 256 := by
 by_cases hE : doE s v x = 0
 ·by_cases h8 : x.op = 8
  ·have hl : s.sends.length < 256 := by
    rcases Nat.lt_or_ge s.sends.length 256 with h' | h'
    ·exact h'
    ·exfalso
     have h3 : doE s v x = sendE s v x := by simp [doE, h8]
     unfold sendE at h3
     rw [hE, if_pos h'] at h3
     split at h3
     ·omega
     ·split at h3
      ·omega
      ·split at h3 <;> omega
   have e : doS s v x = { s with at_ := s.at_ + 1, sends := s.sends ++ [⟨x.n, s.regs x.a.toNat, s.regs x.b.toNat⟩] } := by simp [doS, hE, h8]
   rw [e]
   simp only [List.length_append, List.length_cons, List.length_nil]
   omega
  ·have e : (doS s v x).sends = s.sends := by
    unfold doS
    simp only [apply_ite Sta.sends, if_neg h8, Sta.put, ite_self]
   rw [e]; exact h
 ·rw [doS_bad hE]; exact h
theorem doS_cells6 {s : Sta} {v : Evi} {x : Ins} (h : x.op ≠ 6) : (doS s v x).cells = s.cells := by
 unfold doS
 simp only [apply_ite Sta.cells, if_neg h, Sta.put, ite_self]
theorem doS_sends8 {s : Sta} {v : Evi} {x : Ins} (h : x.op ≠ 8) : (doS s v x).sends = s.sends := by
 unfold doS
 simp only [apply_ite Sta.sends, if_neg h, Sta.put, ite_self]
theorem doS_clen (s : Sta) (v : Evi) (x : Ins) : (doS s v x).cells.length = s.cells.length := by
 unfold doS
 simp only [apply_ite Sta.cells, apply_ite List.length, Sta.put, List.length_set, ite_self]
theorem doS_slen {s : Sta} {v : Evi} {x : Ins} (hE : doE s v x = 0) (h : x.op = 8) : (doS s v x).sends.length = s.sends.length + 1 := by
 have e : doS s v x = { s with at_ := s.at_ + 1, sends := s.sends ++ [⟨x.n, s.regs x.a.toNat, s.regs x.b.toNat⟩] } := by simp [doS, hE, h]
 rw [e]
 simp only [List.length_append, List.length_cons, List.length_nil]
theorem FG.step {P : List Ins} {v : Evi} {s : Sta} (h : FG P s) (hP : PG P) (V : VOk v) (he : s.ended = false) : FG P (xp_ P v s) := by
 have K := h.ook hP V
 have e : xp_ P v s = doS s v (insAt P s.at_) := by unfold xp_; rw [if_neg (by rw [he]; exact Bool.noConfusion)]
 rw [e]
 have hR := doS_R K h.cr
 exact ⟨doS_good h.sg hP, hR.1, hR.2, doS_sends h.sd⟩
structure FS where
 k : Nat
 s : Sta
 x : Ins
 tr : List Int
 a : Int
 fc : Bool
 fs : Bool
 nc : Nat
 ns : Nat
def FS.ct (z : FS) : List Int := bif z.fc then z.s.cells else []
def FS.st (z : FS) : List Snd := bif z.fs then z.s.sends else []
structure FInv (P : List Ins) (v : Evi) (f : Nat) (s0 : Sta) (R : RR) (B : Bool × Bool) (z : FS) : Prop where
 hk : z.k ≤ f
 hg : FG P z.s
 hl : z.tr.length = z.k
 hr : xj_ P v (f - z.k) z.s z.x z.tr z.a = R
 hb : runB P v (f - z.k) z.s z.fc z.fs = B
 hc : z.s.cells.length = z.nc
 hs : z.s.sends.length = z.ns
 hc2 : z.fc = false → z.s.cells = s0.cells
 hs2 : z.fs = false → z.s.sends = s0.sends
theorem stepS_of {P : List Ins} {v : Evi} {s : Sta} (he : s.ended = false) : xp_ P v s = doS s v (insAt P s.at_) := by unfold xp_; rw [if_neg (by rw [he]; exact Bool.noConfusion)]
theorem stepE_of {P : List Ins} {v : Evi} {s : Sta} (he : s.ended = false) : xg_ P v s = doE s v (insAt P s.at_) := by unfold xg_; rw [if_neg (by rw [he]; exact Bool.noConfusion)]
theorem FInv.step {P : List Ins} {v : Evi} {f : Nat} {s0 : Sta} {R : RR} {B : Bool × Bool} {z : FS} (H : FInv P v f s0 R B z) (hP : PG P) (V : VOk v) (he : z.s.ended = false) (hkf : z.k < f) (x : Ins) (hx : insAt P z.s.at_ = x) (h : doE z.s v x = 0) (c d : Bool) (m : Nat)
  (hc : c = (z.fc || decide (x.op = 6))) (hd : d = (z.fs || decide (x.op = 8))) (hm : (doS z.s v x).sends.length = m) : FInv P v f s0 R B ⟨z.k + 1, doS z.s v x, stepX P z.s z.x, z.tr ++ [z.s.at_], z.s.at_, c, d, z.nc, m⟩ := by
 subst hx
 have e := stepS_of (P := P) (v := v) he
 have h' : xg_ P v z.s = 0 := by rw [stepE_of he]; exact h
 refine ⟨hkf, ?_, by simp [H.hl], ?_, ?_, ?_, hm, fun hf => ?_, fun hf => ?_⟩
 ·have := H.hg.step hP V he; rwa [e] at this
 ·have := H.hr; rw [runA_go he (by omega) h', e] at this
  exact this
 ·have := H.hb; rw [runB_go he (by omega) h', e, ← hc, ← hd] at this
  exact this
 ·exact (doS_clen _ _ _).trans H.hc
 ·dsimp only at hf ⊢
  rw [hf] at hc
  have hc := hc.symm
  simp only [Bool.or_eq_false_iff, decide_eq_false_iff_not] at hc
  rw [doS_cells6 hc.2]; exact H.hc2 hc.1
 ·dsimp only at hf ⊢
  rw [hf] at hd
  have hd := hd.symm
  simp only [Bool.or_eq_false_iff, decide_eq_false_iff_not] at hd
  rw [doS_sends8 hd.2]; exact H.hs2 hd.1
def cRf (l : List Int) : HB := .own 2 (.arr l.length 1 (i64S l)) false
def sRf (l : List Snd) : HB := .own 177 (.arr l.length 3 (zn_ l)) false
def trO (l : List Int) : HB := .own 3 (.arr l.length 1 (i64S l)) false
theorem less_i64n {t n : Nat} {b : Bool} {σ : Nat → Nat} {l m : List Int} (hn : n = m.length) (hl : l = m) : Less (.own t (.arr n 1 (i64S l)) b) ((HB.own t (.arr m.length 1 (i64S m)) b).ren σ) := by
 subst hn hl; exact .same _
theorem less_sndn {t n : Nat} {b : Bool} {σ : Nat → Nat} {l m : List Snd} (hn : n = m.length) (hl : l = m) : Less (.own t (.arr n 3 (zn_ l)) b) ((HB.own t (.arr m.length 3 (zn_ m)) b).ren σ) := by
 subst hn hl
 have e : (HB.own t (.arr l.length 3 (zn_ l)) b).ren σ = .own t (.arr l.length 3 (zn_ l)) b := by
  simp only [HB.ren, SV.ren]; rw [sndsS_ren]
 rw [e]; exact .same _
theorem less_tr1 {t : Nat} {b : Bool} {σ : Nat → Nat} (D : List Int) (y : Int) {g : Nat → SV} {xv z : SV} (hg : g = fun q => SV.ite (decide (q < D.length)) (.int .i64 (D.getD q 0)) ([xv].getD (q - D.length) z)) (hx : ∀ β, xv.cl β = [.int .i64 y]) : Less (.own t (.arr (D.length + 1) 1 g) b) ((HB.own t (.arr (D.length + 1) 1 (i64S (D ++ [y]))) b).ren σ) := by
 refine less_arL (D ++ [y]) fun β q hq => ?_
 subst hg
 dsimp only
 rw [y7_]
 by_cases h : q < D.length
 ·simp only [h, decide_true, cond_true, List.getD_eq_getElem?_getD, List.getElem?_append_left h]; rfl
 ·obtain rfl : q = D.length := by omega
  simp only [Nat.lt_irrefl, decide_false, cond_false, Nat.sub_self, List.getD_cons_zero, hx, List.getD_eq_getElem?_getD, List.getElem?_append_right (Nat.le_refl _), List.getElem?_cons_zero, Option.getD_some]
theorem less_tr {t : Nat} {b : Bool} {σ : Nat → Nat} (D : List Int) (y : Int) {g : Nat → SV} {xv z : SV} (hg : g = fun q => SV.ite (decide (q < D.length)) (.int .i64 (D.getD q 0)) ([xv].getD (q - D.length) z)) (hx : ∀ β, xv.cl β = [.int .i64 y]) : Less (.own t (.arr (D.length + 1) 1 g) b) ((HB.own t (.arr (D ++ [y]).length 1 (i64S (D ++ [y]))) b).ren σ) := by
 rw [show (D ++ [y]).length = D.length + 1 from by simp]
 exact less_tr1 D y hg hx
end Go.Proofs.YtjliakjbdcplcaaGreat.Vm
end
section
open Go.Proofs.YtjliakjbdcplcaaGreat.Vm Go.RowKit
attribute [local push_cast] prS zn_ i64S nav_ins xz_ xy_ xx_ xw_ xv_ nav_snd xu_ xt_ xs_ z4_ yh_ yn_ yg_ zw_ zy_ iOf
section
namespace Go.Proofs.YtjliakjbdcplcaaGreat.Vm
open Go.RowKit
theorem ins_eta (x : Ins) : Ins.mk x.op x.a x.b x.c x.n = x := rfl
def cOneE : FuncId → Option yq_ := y3_ [(86, sROneE)]
theorem cOneE_ok : ∀ f S, cOneE f = some S → zj_ Tryz.prog f S := zp_ ⟨sROneE_ok, trivial⟩
def cOneX : FuncId → Option yq_ := y3_ [(86, sROneX)]
theorem cOneX_ok : ∀ f S, cOneX f = some S → zj_ Tryz.prog f S := zp_ ⟨sROneX_ok, trivial⟩
def cOne6 : FuncId → Option yq_ := y3_ [(86, sROne6)]
theorem cOne6_ok : ∀ f S, cOne6 f = some S → zj_ Tryz.prog f S := zp_ ⟨sROne6_ok, trivial⟩
def cOne8 : FuncId → Option yq_ := y3_ [(86, sROne8)]
theorem cOne8_ok : ∀ f S, cOne8 f = some S → zj_ Tryz.prog f S := zp_ ⟨sROne8_ok, trivial⟩
theorem from_lit (P : List Ins) (v : Evi) (s0 : Sta) (p1 p2 p3 : Nat) (f : Int) (hP : PG P) (V : VOk v) (hG : FG P s0) (hf0 : 0 ≤ f) (hf1 : f ≤ 1000000) (R : RR) (hr : xj_ P v f.toNat s0 Ins0 [] s0.at_ = R) (B : Bool × Bool) (hB : runB P v f.toNat s0 false false = B) :
  zo_ Tryz.prog 43 [.sl 1 2 [] 5 0 P.length (some p1), evS v, sr s0 (.sl 3 4 [] 1 0 s0.cells.length (some p2)) (.sl 5 6 [] 3 0 s0.sends.length (some p3)), .int .i64 f]
  [.gone, .gone, .ro (.arr P.length 5 (prS P)), .gone, .ro (.arr s0.cells.length 1 (i64S s0.cells)), .gone, .ro (.arr s0.sends.length 3 (zn_ s0.sends))]
  (.agg [.sl 7 7 [] 1 0 R.tr.length none, .int .i64 R.at_, .int .i64 R.bad, sr R.s (SV.ite B.1 (.sl 8 8 [] 1 0 R.s.cells.length none) (.sl 3 4 [] 1 0 s0.cells.length (some p2))) (SV.ite B.2 (.sl 9 9 [] 3 0 R.s.sends.length none) (.sl 5 6 [] 3 0 s0.sends.length (some p3)))])
  [.gone, .gone, .gone, .gone, .gone, .gone, .gone, trO R.tr, cRf (bif B.1 then R.s.cells else []), sRf (bif B.2 then R.s.sends else [])] := by
 have hplen := hP.len
 simp only [evS, sr]
 refine ze_ (fn := Tryz.f43) 7 58 0 rfl rfl rfl rfl rfl (by simp only [zd_, Stable, hp, i64S, prS, yo_, zn_, sndS, evS, sr, y2_, nilS, cRf, sRf, trO]; simp [HB.born]) rfl fun w0 M E hro => ?_
 repeat' (first | refine Ctl.h ?_ | ((with_reducible intro hif); first | (focus (cases hif; done)) | ((try simp only [JH] at hif); try (exfalso; omega))) | ((with_reducible first | apply J22 cOneE_ok za_ | apply J23 fol cOneE_ok za_ | apply J24); (·rfl); (· (simp only [push_cast, ↓JP, Nat.reduceAdd, Nat.reduceEqDiff, Nat.reduceLT, Nat.reduceMul, Nat.reduceLeDiff, reduceCtorEq, reduceIte, ↓JK, sr, evS, y2_, nilS, inR, inN]; rfl)); (try kernel_rfl); try exact k25_) | fail)
 refine WF.nilIn 3 1 (i64S []) 10 112 _ (.agg [.sl 11 11 [] 1 0 0 none, .int .i64 s0.at_, .nat .i64 0, sr s0 (.sl 3 4 [] 1 0 s0.cells.length (some p2)) (.sl 5 6 [] 3 0 s0.sends.length (some p3))]) true (fun _ q => i64S_stable q) rfl (fun β b0 hβ => by
   have e := nilB_cl b0 (show β 11 = (none, 0) from hβ) 1
   simp only [sr, SV.cl, SV.den, denL] at e ⊢
   rw [e]) (fun h hb => by
   have k3 := hb 3 (show (3 : Nat) ≤ 11 by decide)
   have k4 := hb 4 (show (4 : Nat) ≤ 11 by decide)
   have k5 := hb 5 (show (5 : Nat) ≤ 11 by decide)
   have k6 := hb 6 (show (6 : Nat) ≤ 11 by decide)
   have k11 := hb 11 (show (11 : Nat) ≤ 11 by decide)
   simp [sr, Stable, zd_, k3, k4, k5, k6, k11]) rfl (fun n k f e => by cases e) (fun n k f e => by cases e) rfl ?_
 simp only [setH, List.cons_append, List.nil_append]
 refine WF.empty 2 1 (i64S []) (fun _ q => i64S_stable q) ?_
 refine WF.empty 177 3 (zn_ []) (fun _ q => y5_ q) ?_
 simp only [List.cons_append, List.nil_append]
 refine WF.loopAt (fun (z : FS) => FInv P v f.toNat s0 R B z) (fun (z : FS) => [(0, .sl 1 2 [] 5 0 P.length (some p1)), (3, .int .i64 f), (5, .ptr 7 []), (8, .ptr 9 []), (9, .ptr 10 [])]) (fun (z : FS) => [.gone, .gone, .ro (.arr P.length 5 (prS P)), .gone, .ro (.arr s0.cells.length 1 (i64S s0.cells)), .gone, .ro (.arr s0.sends.length 3 (zn_ s0.sends)), .own 102 (evS v) true, .gone, .own 112 (.agg [nilS, .nat .i64 0, .nat .i64 0, y2_]) true, .own 112 (.agg [.sl 11 11 [] 1 0 z.k none, .int .i64 z.a, .nat .i64 0, sr z.s (SV.ite z.fc (.sl 12 12 [] 1 0 z.nc none) (.sl 3 4 [] 1 0 z.nc (some p2))) (SV.ite z.fs (.sl 13 13 [] 3 0 z.ns none) (.sl 5 6 [] 3 0 z.ns (some p3)))]) true, .own 3 (.arr z.k 1 (i64S z.tr)) false, .own 2 (.arr z.ct.length 1 (i64S z.ct)) false, .own 177 (.arr z.st.length 3 (zn_ z.st)) false]) (fun (z : FS) => f.toNat - z.k) ⟨0, s0, Ins0, [], s0.at_, false, false, s0.cells.length, s0.sends.length⟩ ⟨Nat.zero_le _, hG, rfl, hr, hB, rfl, rfl, fun _ => rfl, fun _ => rfl⟩ ?_ ?_ rfl ?_ ?_ rfl ?_
 ·exact k5_
 ·exact k6_
 ·exact k96_
 ·exact k96_
 rintro ⟨k, ⟨at1, en, rg, ce, dr, se⟩, x, tr, a, fc, fs, nc, ns⟩ H
 have hnc := H.hc
 have hns := H.hs
 have hg := H.hg
 have hl := H.hl
 have hr1 := H.hr
 have hb1 := H.hb
 have hk := H.hk
 dsimp only at hnc hns hg hl hr1 hb1 hk
 subst hnc hns hl
 have htl : tr.length ≤ 1000000 := by omega
 have a0 : 0 ≤ at1 := hg.sg.a0
 have a1 : at1 < P.length := hg.sg.a1
 have hsd : se.length ≤ 256 := hg.sd
 have hcl : ce.length ≤ 1024 := hg.sg.c1
 cases en
 ·by_cases hkf : tr.length < f.toNat
  ·have hne : ¬ (tr.length : Int) = f := by omega
   have hK : OOk ⟨at1, false, rg, ce, dr, se⟩ v (insAt P at1) := hg.ook hP V
   obtain ⟨xi, hxi⟩ : ∃ xi, insAt P at1 = xi := ⟨_, rfl⟩
   rw [hxi] at hK
   have hx : P.getD at1.toNat ⟨0, 0, 0, 0, 0⟩ = xi := hxi
   by_cases hE : doE ⟨at1, false, rg, ce, dr, se⟩ v xi = 0
   ·by_cases h6 : xi.op = 6
    ·(have hq1 := H.hc2; have hq2 := H.hs2; dsimp only at hq1 hq2; cases fc <;> cases fs <;> (try (have hq1 := hq1 rfl; subst hq1)) <;> (try (have hq2 := hq2 rfl; subst hq2)) <;> simp only [FS.ct, FS.st, y7_, cond_true, cond_false])
     all_goals
      repeat' (first | refine Ctl.h ?_ | ((with_reducible intro hif); first | (focus (cases hif; done)) | ((try simp only [JH] at hif); try (exfalso; omega))) | ((with_reducible first | apply J22 cOne6_ok za_ | apply J23 fol cOne6_ok za_ | apply J24); (·rfl); (· (simp only [push_cast, ↓JP, Nat.reduceAdd, Nat.reduceEqDiff, Nat.reduceLT, Nat.reduceMul, Nat.reduceLeDiff, reduceCtorEq, reduceIte, ↓JK, cOne6, sROne6, JE, ins_eta, sr, evS, yo_, prS, y2_, nilS, zw_, zy_, iOf, zl_, y6_, yy_, ls_sndsS, ls_sndsS', zb_, Int.cast_ofNat_Int, inR, inN, List.all_cons, List.all_nil, hx, a0, a1, hne, (eq_true hE), (eq_true h6)]; rfl)); (try kernel_rfl); try exact k108_) | fail)
     ·have eC : (doS ⟨at1, false, rg, s0.cells, dr, s0.sends⟩ v xi).cells.length = s0.cells.length := doS_clen _ _ _
      have eS : (doS ⟨at1, false, rg, s0.cells, dr, s0.sends⟩ v xi).sends = s0.sends := doS_sends8 (by omega)
      refine At.nextPick [0, 1, 2, 3, 4, 5, 6, 7, 8, 9, 10, 15, 16, 13] ⟨tr.length + 1, (doS ⟨at1, false, rg, s0.cells, dr, s0.sends⟩ v xi), stepX P ⟨at1, false, rg, s0.cells, dr, s0.sends⟩ x, tr ++ [at1], at1, true, false, s0.cells.length, s0.sends.length⟩ ?_ rfl rfl rfl ?_ rfl ?_ ?_ ?_ rfl
      ·exact k97_
      ·exact k98_
      ·exact k96_
      ·exact k16_
      ·exact k96_
     ·have eC : (doS ⟨at1, false, rg, s0.cells, dr, se⟩ v xi).cells.length = s0.cells.length := doS_clen _ _ _
      have eS : (doS ⟨at1, false, rg, s0.cells, dr, se⟩ v xi).sends = se := doS_sends8 (by omega)
      refine At.nextPick [0, 1, 2, 3, 4, 5, 6, 7, 8, 9, 10, 15, 16, 13] ⟨tr.length + 1, (doS ⟨at1, false, rg, s0.cells, dr, se⟩ v xi), stepX P ⟨at1, false, rg, s0.cells, dr, se⟩ x, tr ++ [at1], at1, true, true, s0.cells.length, se.length⟩ ?_ rfl rfl rfl ?_ rfl ?_ ?_ ?_ rfl
      ·exact k99_
      ·exact k98_
      ·exact k96_
      ·exact k16_
      ·exact k96_
     ·have eC : (doS ⟨at1, false, rg, ce, dr, s0.sends⟩ v xi).cells.length = ce.length := doS_clen _ _ _
      have eS : (doS ⟨at1, false, rg, ce, dr, s0.sends⟩ v xi).sends = s0.sends := doS_sends8 (by omega)
      refine At.nextPick [0, 1, 2, 3, 4, 5, 6, 7, 8, 9, 10, 15, 16, 13] ⟨tr.length + 1, (doS ⟨at1, false, rg, ce, dr, s0.sends⟩ v xi), stepX P ⟨at1, false, rg, ce, dr, s0.sends⟩ x, tr ++ [at1], at1, true, false, ce.length, s0.sends.length⟩ ?_ rfl rfl rfl ?_ rfl ?_ ?_ ?_ rfl
      ·exact k97_
      ·exact k98_
      ·exact k96_
      ·exact k16_
      ·exact k96_
     ·have eC : (doS ⟨at1, false, rg, ce, dr, se⟩ v xi).cells.length = ce.length := doS_clen _ _ _
      have eS : (doS ⟨at1, false, rg, ce, dr, se⟩ v xi).sends = se := doS_sends8 (by omega)
      refine At.nextPick [0, 1, 2, 3, 4, 5, 6, 7, 8, 9, 10, 15, 16, 13] ⟨tr.length + 1, (doS ⟨at1, false, rg, ce, dr, se⟩ v xi), stepX P ⟨at1, false, rg, ce, dr, se⟩ x, tr ++ [at1], at1, true, true, ce.length, se.length⟩ ?_ rfl rfl rfl ?_ rfl ?_ ?_ ?_ rfl
      ·exact k99_
      ·exact k98_
      ·exact k96_
      ·exact k16_
      ·exact k96_
    by_cases h8 : xi.op = 8
    ·(have hq1 := H.hc2; have hq2 := H.hs2; dsimp only at hq1 hq2; cases fc <;> cases fs <;> (try (have hq1 := hq1 rfl; subst hq1)) <;> (try (have hq2 := hq2 rfl; subst hq2)) <;> simp only [FS.ct, FS.st, y7_, cond_true, cond_false])
     all_goals
      repeat' (first | refine Ctl.h ?_ | ((with_reducible intro hif); first | (focus (cases hif; done)) | ((try simp only [JH] at hif); try (exfalso; omega))) | ((with_reducible first | apply J22 cOne8_ok za_ | apply J23 fol cOne8_ok za_ | apply J24); (·rfl); (· (simp only [push_cast, ↓JP, Nat.reduceAdd, Nat.reduceEqDiff, Nat.reduceLT, Nat.reduceMul, Nat.reduceLeDiff, reduceCtorEq, reduceIte, ↓JK, cOne8, sROne8, JE, ins_eta, sr, evS, yo_, prS, y2_, nilS, zw_, zy_, iOf, zl_, y6_, yy_, ls_sndsS, ls_sndsS', zb_, Int.cast_ofNat_Int, inR, inN, List.all_cons, List.all_nil, hx, a0, a1, hne, (eq_true hE), h6, (eq_true h8)]; rfl)); (try kernel_rfl); try exact k108_) | fail)
     ·have eC : (doS ⟨at1, false, rg, s0.cells, dr, s0.sends⟩ v xi).cells.length = s0.cells.length := doS_clen _ _ _
      have eC2 : (doS ⟨at1, false, rg, s0.cells, dr, s0.sends⟩ v xi).cells = s0.cells := doS_cells6 h6
      have eS : (doS ⟨at1, false, rg, s0.cells, dr, s0.sends⟩ v xi).sends.length = s0.sends.length + 1 := doS_slen hE h8
      refine At.nextPick [0, 1, 2, 3, 4, 5, 6, 7, 8, 9, 10, 15, 12, 16] ⟨tr.length + 1, (doS ⟨at1, false, rg, s0.cells, dr, s0.sends⟩ v xi), stepX P ⟨at1, false, rg, s0.cells, dr, s0.sends⟩ x, tr ++ [at1], at1, false, true, s0.cells.length, s0.sends.length + 1⟩ ?_ rfl rfl rfl ?_ rfl ?_ ?_ ?_ rfl
      ·exact k100_
      ·exact k101_
      ·exact k96_
      ·exact k16_
      ·exact k96_
     ·have eC : (doS ⟨at1, false, rg, s0.cells, dr, se⟩ v xi).cells.length = s0.cells.length := doS_clen _ _ _
      have eC2 : (doS ⟨at1, false, rg, s0.cells, dr, se⟩ v xi).cells = s0.cells := doS_cells6 h6
      have eS : (doS ⟨at1, false, rg, s0.cells, dr, se⟩ v xi).sends.length = se.length + 1 := doS_slen hE h8
      refine At.nextPick [0, 1, 2, 3, 4, 5, 6, 7, 8, 9, 10, 15, 12, 16] ⟨tr.length + 1, (doS ⟨at1, false, rg, s0.cells, dr, se⟩ v xi), stepX P ⟨at1, false, rg, s0.cells, dr, se⟩ x, tr ++ [at1], at1, false, true, s0.cells.length, se.length + 1⟩ ?_ rfl rfl rfl ?_ rfl ?_ ?_ ?_ rfl
      ·exact k100_
      ·exact k101_
      ·exact k96_
      ·exact k16_
      ·exact k96_
     ·have eC : (doS ⟨at1, false, rg, ce, dr, s0.sends⟩ v xi).cells.length = ce.length := doS_clen _ _ _
      have eC2 : (doS ⟨at1, false, rg, ce, dr, s0.sends⟩ v xi).cells = ce := doS_cells6 h6
      have eS : (doS ⟨at1, false, rg, ce, dr, s0.sends⟩ v xi).sends.length = s0.sends.length + 1 := doS_slen hE h8
      refine At.nextPick [0, 1, 2, 3, 4, 5, 6, 7, 8, 9, 10, 15, 12, 16] ⟨tr.length + 1, (doS ⟨at1, false, rg, ce, dr, s0.sends⟩ v xi), stepX P ⟨at1, false, rg, ce, dr, s0.sends⟩ x, tr ++ [at1], at1, true, true, ce.length, s0.sends.length + 1⟩ ?_ rfl rfl rfl ?_ rfl ?_ ?_ ?_ rfl
      ·exact k102_
      ·exact k101_
      ·exact k96_
      ·exact k16_
      ·exact k96_
     ·have eC : (doS ⟨at1, false, rg, ce, dr, se⟩ v xi).cells.length = ce.length := doS_clen _ _ _
      have eC2 : (doS ⟨at1, false, rg, ce, dr, se⟩ v xi).cells = ce := doS_cells6 h6
      have eS : (doS ⟨at1, false, rg, ce, dr, se⟩ v xi).sends.length = se.length + 1 := doS_slen hE h8
      refine At.nextPick [0, 1, 2, 3, 4, 5, 6, 7, 8, 9, 10, 15, 12, 16] ⟨tr.length + 1, (doS ⟨at1, false, rg, ce, dr, se⟩ v xi), stepX P ⟨at1, false, rg, ce, dr, se⟩ x, tr ++ [at1], at1, true, true, ce.length, se.length + 1⟩ ?_ rfl rfl rfl ?_ rfl ?_ ?_ ?_ rfl
      ·exact k102_
      ·exact k101_
      ·exact k96_
      ·exact k16_
      ·exact k96_
    ·(have hq1 := H.hc2; have hq2 := H.hs2; dsimp only at hq1 hq2; cases fc <;> cases fs <;> (try (have hq1 := hq1 rfl; subst hq1)) <;> (try (have hq2 := hq2 rfl; subst hq2)) <;> simp only [FS.ct, FS.st, y7_, cond_true, cond_false])
     all_goals
      repeat' (first | refine Ctl.h ?_ | ((with_reducible intro hif); first | (focus (cases hif; done)) | ((try simp only [JH] at hif); try (exfalso; omega))) | ((with_reducible first | apply J22 cOneX_ok za_ | apply J23 fol cOneX_ok za_ | apply J24); (·rfl); (· (simp only [push_cast, ↓JP, Nat.reduceAdd, Nat.reduceEqDiff, Nat.reduceLT, Nat.reduceMul, Nat.reduceLeDiff, reduceCtorEq, reduceIte, ↓JK, cOneX, sROneX, JE, ins_eta, sr, evS, yo_, prS, y2_, nilS, zw_, zy_, iOf, zl_, y6_, yy_, ls_sndsS, ls_sndsS', zb_, Int.cast_ofNat_Int, inR, inN, List.all_cons, List.all_nil, hx, a0, a1, hne, (eq_true hE), h6, h8]; rfl)); (try kernel_rfl); try exact k108_) | fail)
     ·have eC : (doS ⟨at1, false, rg, s0.cells, dr, s0.sends⟩ v xi).cells.length = s0.cells.length := doS_clen _ _ _
      have eC2 : (doS ⟨at1, false, rg, s0.cells, dr, s0.sends⟩ v xi).cells = s0.cells := doS_cells6 h6
      have eS : (doS ⟨at1, false, rg, s0.cells, dr, s0.sends⟩ v xi).sends = s0.sends := doS_sends8 (by omega)
      refine At.nextPick [0, 1, 2, 3, 4, 5, 6, 7, 8, 9, 10, 15, 12, 13] ⟨tr.length + 1, (doS ⟨at1, false, rg, s0.cells, dr, s0.sends⟩ v xi), stepX P ⟨at1, false, rg, s0.cells, dr, s0.sends⟩ x, tr ++ [at1], at1, false, false, s0.cells.length, s0.sends.length⟩ ?_ rfl rfl rfl ?_ rfl ?_ ?_ ?_ rfl
      ·exact ⟨H.step hP V rfl hkf xi hxi hE false false _ (by simp [h6, h8]) (by simp [h6, h8]) (congrArg List.length eS), by show f.toNat - (tr.length + 1) < f.toNat - tr.length; omega⟩
      ·exact k103_
      ·exact k96_
      ·exact k16_
      ·exact k96_
     ·have eC : (doS ⟨at1, false, rg, s0.cells, dr, se⟩ v xi).cells.length = s0.cells.length := doS_clen _ _ _
      have eC2 : (doS ⟨at1, false, rg, s0.cells, dr, se⟩ v xi).cells = s0.cells := doS_cells6 h6
      have eS : (doS ⟨at1, false, rg, s0.cells, dr, se⟩ v xi).sends = se := doS_sends8 (by omega)
      refine At.nextPick [0, 1, 2, 3, 4, 5, 6, 7, 8, 9, 10, 15, 12, 13] ⟨tr.length + 1, (doS ⟨at1, false, rg, s0.cells, dr, se⟩ v xi), stepX P ⟨at1, false, rg, s0.cells, dr, se⟩ x, tr ++ [at1], at1, false, true, s0.cells.length, se.length⟩ ?_ rfl rfl rfl ?_ rfl ?_ ?_ ?_ rfl
      ·exact ⟨H.step hP V rfl hkf xi hxi hE false true _ (by simp [h6, h8]) (by simp [h6, h8]) (congrArg List.length eS), by show f.toNat - (tr.length + 1) < f.toNat - tr.length; omega⟩
      ·exact k103_
      ·exact k96_
      ·exact k16_
      ·exact k96_
     ·have eC : (doS ⟨at1, false, rg, ce, dr, s0.sends⟩ v xi).cells.length = ce.length := doS_clen _ _ _
      have eC2 : (doS ⟨at1, false, rg, ce, dr, s0.sends⟩ v xi).cells = ce := doS_cells6 h6
      have eS : (doS ⟨at1, false, rg, ce, dr, s0.sends⟩ v xi).sends = s0.sends := doS_sends8 (by omega)
      refine At.nextPick [0, 1, 2, 3, 4, 5, 6, 7, 8, 9, 10, 15, 12, 13] ⟨tr.length + 1, (doS ⟨at1, false, rg, ce, dr, s0.sends⟩ v xi), stepX P ⟨at1, false, rg, ce, dr, s0.sends⟩ x, tr ++ [at1], at1, true, false, ce.length, s0.sends.length⟩ ?_ rfl rfl rfl ?_ rfl ?_ ?_ ?_ rfl
      ·exact ⟨H.step hP V rfl hkf xi hxi hE true false _ (by simp [h6, h8]) (by simp [h6, h8]) (congrArg List.length eS), by show f.toNat - (tr.length + 1) < f.toNat - tr.length; omega⟩
      ·exact k103_
      ·exact k96_
      ·exact k16_
      ·exact k96_
     ·have eC : (doS ⟨at1, false, rg, ce, dr, se⟩ v xi).cells.length = ce.length := doS_clen _ _ _
      have eC2 : (doS ⟨at1, false, rg, ce, dr, se⟩ v xi).cells = ce := doS_cells6 h6
      have eS : (doS ⟨at1, false, rg, ce, dr, se⟩ v xi).sends = se := doS_sends8 (by omega)
      refine At.nextPick [0, 1, 2, 3, 4, 5, 6, 7, 8, 9, 10, 15, 12, 13] ⟨tr.length + 1, (doS ⟨at1, false, rg, ce, dr, se⟩ v xi), stepX P ⟨at1, false, rg, ce, dr, se⟩ x, tr ++ [at1], at1, true, true, ce.length, se.length⟩ ?_ rfl rfl rfl ?_ rfl ?_ ?_ ?_ rfl
      ·exact ⟨H.step hP V rfl hkf xi hxi hE true true _ (by simp [h6, h8]) (by simp [h6, h8]) (congrArg List.length eS), by show f.toNat - (tr.length + 1) < f.toNat - tr.length; omega⟩
      ·exact k103_
      ·exact k96_
      ·exact k16_
      ·exact k96_
   ·have hsE : xg_ P v ⟨at1, false, rg, ce, dr, se⟩ ≠ 0 := by rw [stepE_of rfl]; dsimp only; rw [hxi]; exact hE
    have eS : xp_ P v ⟨at1, false, rg, ce, dr, se⟩ = ⟨at1, false, rg, ce, dr, se⟩ := by rw [stepS_of rfl]; dsimp only; rw [hxi]; exact doS_bad hE
    rw [runA_bad rfl (by omega) hsE, stepE_of rfl, eS] at hr1
    rw [runB_bad rfl hsE] at hb1
    dsimp only at hr1
    rw [hxi] at hr1
    subst hr1 hb1
    (have hq1 := H.hc2; have hq2 := H.hs2; dsimp only at hq1 hq2; cases fc <;> cases fs <;> (try (have hq1 := hq1 rfl; subst hq1)) <;> (try (have hq2 := hq2 rfl; subst hq2)) <;> simp only [FS.ct, FS.st, y7_, cond_true, cond_false])
    all_goals
     repeat' (first | refine Ctl.h ?_ | ((with_reducible intro hif); first | (focus (cases hif; done)) | ((try simp only [JH] at hif); try (exfalso; omega))) | ((with_reducible first | apply J22 cOneE_ok za_ | apply J23 fol cOneE_ok za_ | apply J24); (·rfl); (· (simp only [push_cast, ↓JP, Nat.reduceAdd, Nat.reduceEqDiff, Nat.reduceLT, Nat.reduceMul, Nat.reduceLeDiff, reduceCtorEq, reduceIte, ↓JK, cOneE, sROneE, JE, ins_eta, sr, evS, yo_, prS, y2_, nilS, zw_, zy_, iOf, zl_, y6_, yy_, ls_sndsS, ls_sndsS', zb_, Int.cast_ofNat_Int, inR, inN, List.all_cons, List.all_nil, hx, a0, a1, hne, hE]; rfl)); (try kernel_rfl); try exact k108_) | fail)
     apply At.endsPick [0, 1, 2, 3, 4, 5, 6, 15, 12, 13] za_ (fn := Tryz.f43) (rs := [.cell 8 112]) Anc.refl hro (lb_ rfl) rfl
     ·exact yi_
     ·exact xf_
     ·rfl
     ·rfl
     ·rfl
     ·(repeat' (first | exact trivial | exact .inl rfl | exact .inr (.same _) | exact .inr .loose | exact .inr (.arr (by assumption)) | apply And.intro | (exact .inr (less_tr _ _ rfl (fun β => rfl)))))
     ·rfl
     ·exact k96_
     ·exact zs_
     ·exact fun β => by rw [show (tr ++ [at1]).length = tr.length + 1 by simp]; rfl
     ·exact k96_
  ·have hne : (tr.length : Int) = f := by omega
   have e0 : f.toNat - tr.length = 0 := by omega
   rw [e0, xr_ rfl] at hr1
   rw [e0] at hb1
   dsimp only [runB] at hb1 hr1
   subst hr1 hb1
   (have hq1 := H.hc2; have hq2 := H.hs2; dsimp only at hq1 hq2; cases fc <;> cases fs <;> (try (have hq1 := hq1 rfl; subst hq1)) <;> (try (have hq2 := hq2 rfl; subst hq2)) <;> simp only [FS.ct, FS.st, y7_, cond_true, cond_false])
   all_goals
    repeat' (first | refine Ctl.h ?_ | ((with_reducible intro hif); first | (focus (cases hif; done)) | ((try simp only [JH] at hif); try (exfalso; omega))) | ((with_reducible first | apply J22 cOneE_ok za_ | apply J23 fol cOneE_ok za_ | apply J24); (·rfl); (· (simp only [push_cast, ↓JP, Nat.reduceAdd, Nat.reduceEqDiff, Nat.reduceLT, Nat.reduceMul, Nat.reduceLeDiff, reduceCtorEq, reduceIte, ↓JK, cOneE, sROneE, JE, ins_eta, sr, evS, yo_, prS, y2_, nilS, zw_, zy_, iOf, zl_, y6_, yy_, ls_sndsS, ls_sndsS', zb_, Int.cast_ofNat_Int, inR, inN, List.all_cons, List.all_nil, a0, a1, (eq_true hne)]; rfl)); (try kernel_rfl); try exact k108_) | fail)
    apply At.endsPick [0, 1, 2, 3, 4, 5, 6, 11, 12, 13] za_ (fn := Tryz.f43) (rs := [.cell 8 112]) Anc.refl hro (lb_ rfl) rfl
    ·exact yi_
    ·exact xf_
    ·rfl
    ·rfl
    ·rfl
    ·exact k29_
    ·rfl
    ·exact k96_
    ·exact zs_
    ·exact fun β => rfl
    ·exact k96_
 ·rw [xk_ rfl] at hr1
  rw [runB_end rfl] at hb1
  try dsimp only at hr1
  subst hr1 hb1
  (have hq1 := H.hc2; have hq2 := H.hs2; dsimp only at hq1 hq2; cases fc <;> cases fs <;> (try (have hq1 := hq1 rfl; subst hq1)) <;> (try (have hq2 := hq2 rfl; subst hq2)) <;> simp only [FS.ct, FS.st, y7_, cond_true, cond_false])
  all_goals
   repeat' (first | refine Ctl.h ?_ | ((with_reducible intro hif); first | (focus (cases hif; done)) | ((try simp only [JH] at hif); try (exfalso; omega))) | ((with_reducible first | apply J22 cOneE_ok za_ | apply J23 fol cOneE_ok za_ | apply J24); (·rfl); (· (simp only [push_cast, ↓JP, Nat.reduceAdd, Nat.reduceEqDiff, Nat.reduceLT, Nat.reduceMul, Nat.reduceLeDiff, reduceCtorEq, reduceIte, ↓JK, cOneE, sROneE, JE, ins_eta, sr, evS, yo_, prS, y2_, nilS, zw_, zy_, iOf, zl_, y6_, yy_, ls_sndsS, ls_sndsS', zb_, Int.cast_ofNat_Int, inR, inN, List.all_cons, List.all_nil, a0, a1]; rfl)); (try kernel_rfl); try exact k108_) | fail)
   apply At.endsPick [0, 1, 2, 3, 4, 5, 6, 11, 12, 13] za_ (fn := Tryz.f43) (rs := [.cell 8 112]) Anc.refl hro (lb_ rfl) rfl
   ·exact yi_
   ·exact xf_
   ·rfl
   ·rfl
   ·rfl
   ·exact k29_
   ·rfl
   ·exact k96_
   ·exact zs_
   ·exact fun β => rfl
   ·exact k96_
theorem tup3_den {a b c a' b' c' : SV} {β β' : Env} (h : (SV.tup [a, b, c]).den β = (SV.tup [a', b', c']).den β') : a.den β = a'.den β' ∧ b.den β = b'.den β' ∧ c.den β = c'.den β' := by
 simpa [SV.den, denL] using h
theorem den_ite {c : Bool} {x y x' y' : SV} {β β' : Env} (hx : x.den β = x'.den β') (hy : y.den β = y'.den β') : (SV.ite c x y).den β = (SV.ite c x' y').den β' := by
 rw [y7_, y7_]; cases c <;> assumption
theorem den_fr {β β' : Env} {s : Sta} {t x y t' x' y' : SV} {a b : Int} (ht : t.den β = t'.den β') (hx : x.den β = x'.den β') (hy : y.den β = y'.den β') : (SV.agg [t, .int .i64 a, .int .i64 b, sr s x y]).den β = (SV.agg [t', .int .i64 a, .int .i64 b, sr s x' y']).den β' := by
 simp only [sr, SV.den, denL, ht, hx, hy]
theorem stable_fr {h : HM} {s : Sta} {t x y : SV} {a b : Int} (ht : Stable h t) (hx : Stable h x) (hy : Stable h y) : Stable h (.agg [t, .int .i64 a, .int .i64 b, sr s x y]) := by
 simp only [sr, Stable, zd_, ht, hx, hy, and_self, implies_true]
def sFrom : yq_ := fun args h m => match args with
 | [v1, .agg [v2, v3, v4, v5, v6], .agg [v7, .bool v8, .arr 8 1 v9, v10, v11, v12], v13] => match xa_ h 5 (.tup []) v1, xa_ h 1 (.tup []) v10, xa_ h 3 (.tup []) v12 with
  | some (c1, n1, f1, r1), some (c10, n10, f10, r10), some (c12, n12, f12, r12) => bif isI .u64 v2 && isI .i64 v3 && isI .i64 v4 && isI .i64 v5 && isI .i64 v6 && isI .i64 v7 && isI .i64 v11 && isI .i64 v13 then some (c1 ∧ c10 ∧ c12 ∧ (∀ q, q < n1 → isIns (f1 q) = true) ∧ (∀ q, q < n10 → isI .i64 (f10 q) = true) ∧ (∀ q, q < n12 → isSnd (f12 q) = true) ∧ (∀ q, q < 8 → isI .i64 (v9 q) = true) ∧ (PG (ls zl_ n1 f1)) ∧ (VOk ⟨(iOf v2), (iOf v3), (iOf v4), (iOf v5), (iOf v6)⟩) ∧ (FG (ls zl_ n1 f1) ⟨(iOf v7), v8, (fun q => iOf (v9 q)), (ls iOf n10 f10), (iOf v11), (ls zv_ n12 f12)⟩) ∧ (0 ≤ (iOf v13)) ∧ ((iOf v13) ≤ 1000000), .agg [.sl m m [] 1 0 (xj_ (ls zl_ n1 f1) ⟨(iOf v2), (iOf v3), (iOf v4), (iOf v5), (iOf v6)⟩ (iOf v13).toNat ⟨(iOf v7), v8, (fun q => iOf (v9 q)), (ls iOf n10 f10), (iOf v11), (ls zv_ n12 f12)⟩ Ins0 [] (iOf v7)).tr.length none, .int .i64 (xj_ (ls zl_ n1 f1) ⟨(iOf v2), (iOf v3), (iOf v4), (iOf v5), (iOf v6)⟩ (iOf v13).toNat ⟨(iOf v7), v8, (fun q => iOf (v9 q)), (ls iOf n10 f10), (iOf v11), (ls zv_ n12 f12)⟩ Ins0 [] (iOf v7)).at_, .int .i64 (xj_ (ls zl_ n1 f1) ⟨(iOf v2), (iOf v3), (iOf v4), (iOf v5), (iOf v6)⟩ (iOf v13).toNat ⟨(iOf v7), v8, (fun q => iOf (v9 q)), (ls iOf n10 f10), (iOf v11), (ls zv_ n12 f12)⟩ Ins0 [] (iOf v7)).bad, sr (xj_ (ls zl_ n1 f1) ⟨(iOf v2), (iOf v3), (iOf v4), (iOf v5), (iOf v6)⟩ (iOf v13).toNat ⟨(iOf v7), v8, (fun q => iOf (v9 q)), (ls iOf n10 f10), (iOf v11), (ls zv_ n12 f12)⟩ Ins0 [] (iOf v7)).s (SV.ite (runB (ls zl_ n1 f1) ⟨(iOf v2), (iOf v3), (iOf v4), (iOf v5), (iOf v6)⟩ (iOf v13).toNat ⟨(iOf v7), v8, (fun q => iOf (v9 q)), (ls iOf n10 f10), (iOf v11), (ls zv_ n12 f12)⟩ false false).1 (.sl (m + 1) (m + 1) [] 1 0 (xj_ (ls zl_ n1 f1) ⟨(iOf v2), (iOf v3), (iOf v4), (iOf v5), (iOf v6)⟩ (iOf v13).toNat ⟨(iOf v7), v8, (fun q => iOf (v9 q)), (ls iOf n10 f10), (iOf v11), (ls zv_ n12 f12)⟩ Ins0 [] (iOf v7)).s.cells.length none) v10) (SV.ite (runB (ls zl_ n1 f1) ⟨(iOf v2), (iOf v3), (iOf v4), (iOf v5), (iOf v6)⟩ (iOf v13).toNat ⟨(iOf v7), v8, (fun q => iOf (v9 q)), (ls iOf n10 f10), (iOf v11), (ls zv_ n12 f12)⟩ false false).2 (.sl (m + 2) (m + 2) [] 3 0 (xj_ (ls zl_ n1 f1) ⟨(iOf v2), (iOf v3), (iOf v4), (iOf v5), (iOf v6)⟩ (iOf v13).toNat ⟨(iOf v7), v8, (fun q => iOf (v9 q)), (ls iOf n10 f10), (iOf v11), (ls zv_ n12 f12)⟩ Ins0 [] (iOf v7)).s.sends.length none) v12)], r1 ++ r10 ++ r12, [(m, trO (xj_ (ls zl_ n1 f1) ⟨(iOf v2), (iOf v3), (iOf v4), (iOf v5), (iOf v6)⟩ (iOf v13).toNat ⟨(iOf v7), v8, (fun q => iOf (v9 q)), (ls iOf n10 f10), (iOf v11), (ls zv_ n12 f12)⟩ Ins0 [] (iOf v7)).tr), (m + 1, cRf (bif (runB (ls zl_ n1 f1) ⟨(iOf v2), (iOf v3), (iOf v4), (iOf v5), (iOf v6)⟩ (iOf v13).toNat ⟨(iOf v7), v8, (fun q => iOf (v9 q)), (ls iOf n10 f10), (iOf v11), (ls zv_ n12 f12)⟩ false false).1 then (xj_ (ls zl_ n1 f1) ⟨(iOf v2), (iOf v3), (iOf v4), (iOf v5), (iOf v6)⟩ (iOf v13).toNat ⟨(iOf v7), v8, (fun q => iOf (v9 q)), (ls iOf n10 f10), (iOf v11), (ls zv_ n12 f12)⟩ Ins0 [] (iOf v7)).s.cells else [])), (m + 2, sRf (bif (runB (ls zl_ n1 f1) ⟨(iOf v2), (iOf v3), (iOf v4), (iOf v5), (iOf v6)⟩ (iOf v13).toNat ⟨(iOf v7), v8, (fun q => iOf (v9 q)), (ls iOf n10 f10), (iOf v11), (ls zv_ n12 f12)⟩ false false).2 then (xj_ (ls zl_ n1 f1) ⟨(iOf v2), (iOf v3), (iOf v4), (iOf v5), (iOf v6)⟩ (iOf v13).toNat ⟨(iOf v7), v8, (fun q => iOf (v9 q)), (ls iOf n10 f10), (iOf v11), (ls zv_ n12 f12)⟩ Ins0 [] (iOf v7)).s.sends else []))]) else none
  | _, _, _ => none
 | _ => none
theorem sFrom_ok : zj_ Tryz.prog 43 sFrom := by
 refine ⟨zf_ (by kernel_rfl), fun args h m c v rd wr hs hm hc w0 M β h' w R hrd hwr hst => ?_⟩
 unfold sFrom at hs
 split at hs
 ·rename_i v1 v2 v3 v4 v5 v6 v7 v8 v9 v10 v11 v12 v13
  split at hs
  ·rename_i c1 n1 f1 r1 c10 n10 f10 r10 c12 n12 f12 r12 a1 a10 a12
   obtain ⟨hb, hs⟩ := zk_ hs
   simp only [Option.some.injEq, Prod.mk.injEq] at hs
   obtain ⟨rfl, rfl, rfl, rfl⟩ := hs
   simp only [Bool.and_eq_true] at hb
   obtain ⟨⟨⟨⟨⟨⟨⟨b2, b3⟩, b4⟩, b5⟩, b6⟩, b7⟩, b11⟩, b13⟩ := hb
   obtain ⟨k1, k10, k12, g1, g10, g12, g9, y1, y2, y3, y4, y5⟩ := hc
   obtain ⟨A1, p1, d1, e1, t1⟩ := zg_ R a1 k1 (fun i hi => hrd i (List.mem_append_left _ (List.mem_append_left _ hi))) (by omega)
   obtain ⟨A10, p10, d10, e10, t10⟩ := zg_ R a10 k10 (fun i hi => hrd i (List.mem_append_left _ (List.mem_append_right _ hi))) (by omega)
   obtain ⟨A12, p12, d12, e12, t12⟩ := zg_ R a12 k12 (fun i hi => hrd i (List.mem_append_right _ hi)) (by omega)
   have s1 : Stable h' v1 := by simp only [zd_, Stable] at hst; exact hst.1
   have s10 : Stable h' v10 := by simp only [zd_, Stable] at hst; exact hst.2.2.1.2.2.2.1
   have s12 : Stable h' v12 := by simp only [zd_, Stable] at hst; exact hst.2.2.1.2.2.2.2.2.1
   refine callRoV (v' := .tup [.sl 7 7 [] 1 0 (xj_ (ls zl_ n1 f1) ⟨(iOf v2), (iOf v3), (iOf v4), (iOf v5), (iOf v6)⟩ (iOf v13).toNat ⟨(iOf v7), v8, (fun q => iOf (v9 q)), (ls iOf n10 f10), (iOf v11), (ls zv_ n12 f12)⟩ Ins0 [] (iOf v7)).tr.length none, .sl 8 8 [] 1 0 (xj_ (ls zl_ n1 f1) ⟨(iOf v2), (iOf v3), (iOf v4), (iOf v5), (iOf v6)⟩ (iOf v13).toNat ⟨(iOf v7), v8, (fun q => iOf (v9 q)), (ls iOf n10 f10), (iOf v11), (ls zv_ n12 f12)⟩ Ins0 [] (iOf v7)).s.cells.length none, .sl 9 9 [] 3 0 (xj_ (ls zl_ n1 f1) ⟨(iOf v2), (iOf v3), (iOf v4), (iOf v5), (iOf v6)⟩ (iOf v13).toNat ⟨(iOf v7), v8, (fun q => iOf (v9 q)), (ls iOf n10 f10), (iOf v11), (ls zv_ n12 f12)⟩ Ins0 [] (iOf v7)).s.sends.length none]) (views := [⟨5, (ls zl_ n1 f1).length, prS (ls zl_ n1 f1), A1, p1⟩, ⟨1, (ls iOf n10 f10).length, i64S (ls iOf n10 f10), A10, p10⟩, ⟨3, (ls zv_ n12 f12).length, zn_ (ls zv_ n12 f12), A12, p12⟩]) (from_lit (ls zl_ n1 f1) ⟨(iOf v2), (iOf v3), (iOf v4), (iOf v5), (iOf v6)⟩ ⟨(iOf v7), v8, (fun q => iOf (v9 q)), (ls iOf n10 f10), (iOf v11), (ls zv_ n12 f12)⟩ p1 p10 p12 (iOf v13) y1 y2 y3 y4 y5 _ rfl _ rfl) ?_ R hm hwr ?_ ?_ ?_ ?_ ?_
   ·intro x hx
    simp only [List.mem_cons, List.not_mem_nil, or_false] at hx
    rcases hx with rfl | rfl | rfl
    ·exact xn_ t1 e1 g1
    ·exact z0_ t10 e10 g10
    ·exact viewSnd t12 e12 g12
   ·intro β1 hv
    simp only [Vd, zb_, and_true] at hv
    obtain ⟨z1, z10, z12⟩ := hv
    simp only [denL, z7_, z6_, z5_, zr_, zb_, yo_, evS, sr, csl, ssl, z1, z10, z12, d1, d10, d12, zc_ b2, zc_ b3, zc_ b4, zc_ b5, zc_ b6, zc_ b7, zc_ b11, zc_ b13, ← r8Den (β := β) (β1 := β1) g9]
   ·exact k104_
   ·exact k104_
   ·intro h2 hb2 hp2
    obtain ⟨q1, q2, q3, _⟩ := hp2; exact stable_fr q1 (Stable.ite q2 (s10.more hb2)) (Stable.ite q3 (s12.more hb2))
   ·intro β2 β' hv he hbo
    simp only [Vd, zb_, and_true] at hv
    obtain ⟨z1, z10, z12⟩ := hv
    have u1 := (Stable.den hbo s1).symm.trans d1
    have u10 := (Stable.den hbo s10).symm.trans d10
    have u12 := (Stable.den hbo s12).symm.trans d12
    simp only [SV.ren, renL] at he; obtain ⟨q1, q2, q3⟩ := tup3_den he; exact den_fr q1 (den_ite q2 (by rw [u10]; simp only [zb_]; exact z10)) (den_ite q3 (by rw [u12]; simp only [zb_]; exact z12))
  ·cases hs
 ·cases hs
def cWh : FuncId → Option yq_ := y3_ [(38, sRBegin), (39, sRt18), (43, sFrom)]
theorem cWh_ok : ∀ f S, cWh f = some S → zj_ Tryz.prog f S := zp_ ⟨sRBegin_ok, sRt18_ok, sFrom_ok, trivial⟩
theorem begin_R (a b c : Int) : beginR a b c = begR a b c := by
 funext j
 rcases j with _ | _ | _ | j
 ·rfl
 ·rfl
 ·rfl
 ·show (0 : Int) = if j + 3 = 2 then c else if j + 3 = 1 then b else if j + 3 = 0 then a else 0
  rw [if_neg (by omega), if_neg (by omega), if_neg (by omega)]
theorem begin_R' (a b c : Int) : (fun j => beginR a b c j) = begR a b c := begin_R a b c
theorem xh_ : ((0 : Nat) : Int) = 0 := rfl
theorem ls_nil {α : Type} (g : SV → α) (f : Nat → SV) : ls g 0 f = [] := rfl
theorem begR_R {a b c : Int} (ha : R64 a) (hb : R64 b) (hc : R64 c) (q : Nat) : R64 (begR a b c q) := by
 unfold begR
 split
 ·exact hc
 ·split
  ·exact hb
  ·split
   ·exact ha
   ·exact zero_R
theorem runA_fc {P : List Ins} {v : Evi} {s0 : Sta} : ∀ (n : Nat) (s : Sta) (x : Ins) (tr : List Int) (a : Int) (c d : Bool), (c = false → s.cells = s0.cells) → (d = false → s.sends = s0.sends) → ((runB P v n s c d).1 = false → (xj_ P v n s x tr a).s.cells = s0.cells) ∧ ((runB P v n s c d).2 = false → (xj_ P v n s x tr a).s.sends = s0.sends)
 | 0, s, x, tr, a, c, d, hc, hd => by
  unfold xj_
  split <;> exact ⟨hc, hd⟩
 | n + 1, s, x, tr, a, c, d, hc, hd => by
  unfold xj_ runB
  by_cases he : s.ended = true
  ·rw [if_pos he, if_pos he]; exact ⟨hc, hd⟩
  ·rw [if_neg he, if_neg he]
   have he' : s.ended = false := by cases h : s.ended <;> simp_all
   by_cases hE : xg_ P v s = 0
   ·rw [if_pos hE, if_pos hE]
    refine runA_fc n _ _ _ _ _ _ (fun h => ?_) (fun h => ?_)
    ·simp only [Bool.or_eq_false_iff, decide_eq_false_iff_not] at h
     rw [stepS_of he', doS_cells6 h.2]; exact hc h.1
    ·simp only [Bool.or_eq_false_iff, decide_eq_false_iff_not] at h
     rw [stepS_of he', doS_sends8 h.2]; exact hd h.1
   ·rw [if_neg hE, if_neg hE]
    have e : xp_ P v s = s := by rw [stepS_of he']; exact doS_bad (by rw [stepE_of he'] at hE; exact hE)
    rw [e]; exact ⟨hc, hd⟩
theorem whole_lit (P : List Ins) (v : Evi) (y t s d f : Int) (cs : List Int) (p1 p2 : Nat) (hok : ∀ x ∈ P, x.ok) (hn : P.length ≤ 1000000) (hc : cs.length ≤ 1000000) (hw : ∀ k, R64 (cs.getD k 0)) (hy : R64 y) (ht : R64 t) (hs : R64 s) (R : RR) (hR : y9_ P v (ys_ y t s cs d) f = R) : zo_ Tryz.prog 87 [.sl 1 2 [] 5 0 P.length (some p1), evS v, .int .i64 y, .int .i64 t, .int .i64 s, .sl 3 4 [] 1 0 cs.length (some p2), .int .i64 d, .int .i64 f]
  [.gone, .gone, .ro (.arr P.length 5 (prS P)), .gone, .ro (.arr cs.length 1 (i64S cs))]
  (.agg [.sl 5 5 [] 1 0 R.tr.length none, .int .i64 R.at_, .int .i64 R.bad, sr R.s (.sl 6 6 [] 1 0 R.s.cells.length none) (.sl 7 7 [] 3 0 R.s.sends.length none)])
  [.gone, .gone, .gone, .gone, .gone, trO R.tr, cRf R.s.cells, sRf R.s.sends] := by
 simp only [evS]
 obtain ⟨s0, hs0⟩ : ∃ s0, ys_ y t s cs d = s0 := ⟨_, rfl⟩
 have hs0' : Sta.mk 0 false (begR y t s) cs d [] = s0 := hs0
 rw [hs0] at hR
 by_cases h1 : f < 0
 ·have e : y9_ P v s0 f = ⟨[], 0, 2, zeroSt, Ins0⟩ := by unfold y9_ ropE rrE; simp [h1]
  rw [e] at hR
  subst hR
  refine ze_ (fn := Tryz.f87) 5 45 0 rfl rfl rfl rfl rfl u13_ rfl fun w0 M E hro => ?_
  repeat' (first | refine Ctl.h ?_ | ((with_reducible intro hif); first | (focus (cases hif; done)) | ((try simp only [JH] at hif); try (exfalso; omega))) | ((with_reducible first | apply J22 cWh_ok za_ | apply J23 fol cWh_ok za_ | apply J24); (·rfl); (· (simp only [push_cast, ↓JP, Nat.reduceAdd, Nat.reduceEqDiff, Nat.reduceLT, Nat.reduceMul, Nat.reduceLeDiff, reduceCtorEq, reduceIte, ↓JK, JE, cWh, sRBegin, sRt18, sFrom, sr, evS, y2_, nilS, zw_, zy_, iOf, begin_R, begin_R', hs0', xh_, ls_nil, zb_, Int.cast_ofNat_Int, inR, inN, h1]; rfl)); (try kernel_rfl); try exact k109_) | fail)
  refine At.nilIn 3 1 (i64S []) 6 112 (.agg [.sl 0 0 [] 0 0 0 (some 0), .nat .i64 0, .nat .i64 2, .agg [.nat .i64 0, .bool false, .arr 8 1 (fun _ => .nat .i64 0), .sl 0 0 [] 0 0 0 (some 0), .nat .i64 0, .sl 0 0 [] 0 0 0 (some 0)]]) (.agg [.sl 7 7 [] 1 0 0 none, .nat .i64 0, .nat .i64 2, .agg [.nat .i64 0, .bool false, .arr 8 1 (fun _ => .nat .i64 0), .sl 0 0 [] 0 0 0 (some 0), .nat .i64 0, .sl 0 0 [] 0 0 0 (some 0)]]) true (fun _ q => i64S_stable q) rfl (fun β b0 hβ => by
     have e := nilB_cl b0 (show β 7 = (none, 0) from hβ) 1
     simp only [SV.cl, SV.den, denL] at e ⊢
     rw [e]) (fun h hb => by
     have k0 := hb 0 (show (0 : Nat) ≤ 7 by decide)
     have k7 := hb 7 (show (7 : Nat) ≤ 7 by decide)
     simp [Stable, zd_, k0, k7]) rfl (fun n k f e => by cases e) (fun n k f e => by cases e) rfl ?_
  simp only [setH, List.cons_append, List.nil_append]
  refine At.nilIn 2 1 (i64S []) 6 112 (.agg [.sl 7 7 [] 1 0 0 none, .nat .i64 0, .nat .i64 2, .agg [.nat .i64 0, .bool false, .arr 8 1 (fun _ => .nat .i64 0), .sl 0 0 [] 0 0 0 (some 0), .nat .i64 0, .sl 0 0 [] 0 0 0 (some 0)]]) (.agg [.sl 7 7 [] 1 0 0 none, .nat .i64 0, .nat .i64 2, .agg [.nat .i64 0, .bool false, .arr 8 1 (fun _ => .nat .i64 0), .sl 8 8 [] 1 0 0 none, .nat .i64 0, .sl 0 0 [] 0 0 0 (some 0)]]) true (fun _ q => i64S_stable q) rfl (fun β b0 hβ => by
     have e := nilB_cl b0 (show β 8 = (none, 0) from hβ) 1
     simp only [SV.cl, SV.den, denL] at e ⊢
     rw [e]) (fun h hb => by
     have k0 := hb 0 (show (0 : Nat) ≤ 8 by decide)
     have k7 := hb 7 (show (7 : Nat) ≤ 8 by decide)
     have k8 := hb 8 (show (8 : Nat) ≤ 8 by decide)
     simp [Stable, zd_, k0, k7, k8]) rfl (fun n k f e => by cases e) (fun n k f e => by cases e) rfl ?_
  simp only [setH, List.cons_append, List.nil_append]
  refine At.nilIn 177 3 (zn_ []) 6 112 (.agg [.sl 7 7 [] 1 0 0 none, .nat .i64 0, .nat .i64 2, .agg [.nat .i64 0, .bool false, .arr 8 1 (fun _ => .nat .i64 0), .sl 8 8 [] 1 0 0 none, .nat .i64 0, .sl 0 0 [] 0 0 0 (some 0)]]) (.agg [.sl 7 7 [] 1 0 0 none, .nat .i64 0, .nat .i64 2, .agg [.nat .i64 0, .bool false, .arr 8 1 (fun _ => .nat .i64 0), .sl 8 8 [] 1 0 0 none, .nat .i64 0, .sl 9 9 [] 3 0 0 none]]) true (fun _ q => y5_ q) rfl (fun β b0 hβ => by
     have e := nilB_cl b0 (show β 9 = (none, 0) from hβ) 3
     simp only [SV.cl, SV.den, denL] at e ⊢
     rw [e]) (fun h hb => by
     have k0 := hb 0 (show (0 : Nat) ≤ 9 by decide)
     have k7 := hb 7 (show (7 : Nat) ≤ 9 by decide)
     have k8 := hb 8 (show (8 : Nat) ≤ 9 by decide)
     have k9 := hb 9 (show (9 : Nat) ≤ 9 by decide)
     simp [Stable, zd_, k0, k7, k8, k9]) rfl (fun n k f e => by cases e) (fun n k f e => by cases e) rfl ?_
  simp only [setH, List.cons_append, List.nil_append]
  apply At.endsPick [0, 1, 2, 3, 4, 7, 8, 9] za_ (fn := Tryz.f87) (rs := [.cell 16 112]) Anc.refl hro (lb_ rfl) rfl
  ·exact yi_
  ·exact xf_
  ·rfl
  ·rfl
  ·rfl
  ·exact k29_
  ·rfl
  ·exact k104_
  ·exact zs_
  ·exact fun β => rfl
  ·exact k104_
 by_cases h2 : 4096 < f
 ·have e : y9_ P v s0 f = ⟨[], 0, 2, zeroSt, Ins0⟩ := by unfold y9_ ropE rrE; simp [h2]
  rw [e] at hR
  subst hR
  refine ze_ (fn := Tryz.f87) 5 45 0 rfl rfl rfl rfl rfl u13_ rfl fun w0 M E hro => ?_
  repeat' (first | refine Ctl.h ?_ | ((with_reducible intro hif); first | (focus (cases hif; done)) | ((try simp only [JH] at hif); try (exfalso; omega))) | ((with_reducible first | apply J22 cWh_ok za_ | apply J23 fol cWh_ok za_ | apply J24); (·rfl); (· (simp only [push_cast, ↓JP, Nat.reduceAdd, Nat.reduceEqDiff, Nat.reduceLT, Nat.reduceMul, Nat.reduceLeDiff, reduceCtorEq, reduceIte, ↓JK, JE, cWh, sRBegin, sRt18, sFrom, sr, evS, y2_, nilS, zw_, zy_, iOf, begin_R, begin_R', hs0', xh_, ls_nil, zb_, Int.cast_ofNat_Int, inR, inN, h1, h2]; rfl)); (try kernel_rfl); try exact k109_) | fail)
  refine At.nilIn 3 1 (i64S []) 6 112 (.agg [.sl 0 0 [] 0 0 0 (some 0), .nat .i64 0, .nat .i64 2, .agg [.nat .i64 0, .bool false, .arr 8 1 (fun _ => .nat .i64 0), .sl 0 0 [] 0 0 0 (some 0), .nat .i64 0, .sl 0 0 [] 0 0 0 (some 0)]]) (.agg [.sl 7 7 [] 1 0 0 none, .nat .i64 0, .nat .i64 2, .agg [.nat .i64 0, .bool false, .arr 8 1 (fun _ => .nat .i64 0), .sl 0 0 [] 0 0 0 (some 0), .nat .i64 0, .sl 0 0 [] 0 0 0 (some 0)]]) true (fun _ q => i64S_stable q) rfl (fun β b0 hβ => by
     have e := nilB_cl b0 (show β 7 = (none, 0) from hβ) 1
     simp only [SV.cl, SV.den, denL] at e ⊢
     rw [e]) (fun h hb => by
     have k0 := hb 0 (show (0 : Nat) ≤ 7 by decide)
     have k7 := hb 7 (show (7 : Nat) ≤ 7 by decide)
     simp [Stable, zd_, k0, k7]) rfl (fun n k f e => by cases e) (fun n k f e => by cases e) rfl ?_
  simp only [setH, List.cons_append, List.nil_append]
  refine At.nilIn 2 1 (i64S []) 6 112 (.agg [.sl 7 7 [] 1 0 0 none, .nat .i64 0, .nat .i64 2, .agg [.nat .i64 0, .bool false, .arr 8 1 (fun _ => .nat .i64 0), .sl 0 0 [] 0 0 0 (some 0), .nat .i64 0, .sl 0 0 [] 0 0 0 (some 0)]]) (.agg [.sl 7 7 [] 1 0 0 none, .nat .i64 0, .nat .i64 2, .agg [.nat .i64 0, .bool false, .arr 8 1 (fun _ => .nat .i64 0), .sl 8 8 [] 1 0 0 none, .nat .i64 0, .sl 0 0 [] 0 0 0 (some 0)]]) true (fun _ q => i64S_stable q) rfl (fun β b0 hβ => by
     have e := nilB_cl b0 (show β 8 = (none, 0) from hβ) 1
     simp only [SV.cl, SV.den, denL] at e ⊢
     rw [e]) (fun h hb => by
     have k0 := hb 0 (show (0 : Nat) ≤ 8 by decide)
     have k7 := hb 7 (show (7 : Nat) ≤ 8 by decide)
     have k8 := hb 8 (show (8 : Nat) ≤ 8 by decide)
     simp [Stable, zd_, k0, k7, k8]) rfl (fun n k f e => by cases e) (fun n k f e => by cases e) rfl ?_
  simp only [setH, List.cons_append, List.nil_append]
  refine At.nilIn 177 3 (zn_ []) 6 112 (.agg [.sl 7 7 [] 1 0 0 none, .nat .i64 0, .nat .i64 2, .agg [.nat .i64 0, .bool false, .arr 8 1 (fun _ => .nat .i64 0), .sl 8 8 [] 1 0 0 none, .nat .i64 0, .sl 0 0 [] 0 0 0 (some 0)]]) (.agg [.sl 7 7 [] 1 0 0 none, .nat .i64 0, .nat .i64 2, .agg [.nat .i64 0, .bool false, .arr 8 1 (fun _ => .nat .i64 0), .sl 8 8 [] 1 0 0 none, .nat .i64 0, .sl 9 9 [] 3 0 0 none]]) true (fun _ q => y5_ q) rfl (fun β b0 hβ => by
     have e := nilB_cl b0 (show β 9 = (none, 0) from hβ) 3
     simp only [SV.cl, SV.den, denL] at e ⊢
     rw [e]) (fun h hb => by
     have k0 := hb 0 (show (0 : Nat) ≤ 9 by decide)
     have k7 := hb 7 (show (7 : Nat) ≤ 9 by decide)
     have k8 := hb 8 (show (8 : Nat) ≤ 9 by decide)
     have k9 := hb 9 (show (9 : Nat) ≤ 9 by decide)
     simp [Stable, zd_, k0, k7, k8, k9]) rfl (fun n k f e => by cases e) (fun n k f e => by cases e) rfl ?_
  simp only [setH, List.cons_append, List.nil_append]
  apply At.endsPick [0, 1, 2, 3, 4, 7, 8, 9] za_ (fn := Tryz.f87) (rs := [.cell 16 112]) Anc.refl hro (lb_ rfl) rfl
  ·exact yi_
  ·exact xf_
  ·rfl
  ·rfl
  ·rfl
  ·exact k29_
  ·rfl
  ·exact k104_
  ·exact zs_
  ·exact fun β => rfl
  ·exact k104_
 have hrr : rrE f = 0 := by unfold rrE; rw [if_neg (by omega)]
 have hrop : ropE P v s0 f = yt_ P v s0 := by unfold ropE; rw [if_pos hrr]
 by_cases hE : yt_ P v s0 = 0
 case neg =>
  have e : y9_ P v s0 f = ⟨[], 0, yt_ P v s0, zeroSt, Ins0⟩ := by unfold y9_; rw [hrop, if_neg hE]
  rw [e] at hR
  subst hR
  refine ze_ (fn := Tryz.f87) 5 45 0 rfl rfl rfl rfl rfl u13_ rfl fun w0 M E hro => ?_
  repeat' (first | refine Ctl.h ?_ | ((with_reducible intro hif); first | (focus (cases hif; done)) | ((try simp only [JH] at hif); try (exfalso; omega))) | ((with_reducible first | apply J22 cWh_ok za_ | apply J23 fol cWh_ok za_ | apply J24); (·rfl); (· (simp only [push_cast, ↓JP, Nat.reduceAdd, Nat.reduceEqDiff, Nat.reduceLT, Nat.reduceMul, Nat.reduceLeDiff, reduceCtorEq, reduceIte, ↓JK, JE, cWh, sRBegin, sRt18, sFrom, sr, evS, y2_, nilS, zw_, zy_, iOf, begin_R, begin_R', hs0', xh_, ls_nil, zb_, Int.cast_ofNat_Int, inR, inN, h1, h2, hE]; rfl)); (try kernel_rfl); try exact k109_) | fail)
  refine At.nilIn 3 1 (i64S []) 6 112 (.agg [.sl 0 0 [] 0 0 0 (some 0), .nat .i64 0, .int .i64 (yt_ P v s0), .agg [.nat .i64 0, .bool false, .arr 8 1 (fun _ => .nat .i64 0), .sl 0 0 [] 0 0 0 (some 0), .nat .i64 0, .sl 0 0 [] 0 0 0 (some 0)]]) (.agg [.sl 9 9 [] 1 0 0 none, .nat .i64 0, .int .i64 (yt_ P v s0), .agg [.nat .i64 0, .bool false, .arr 8 1 (fun _ => .nat .i64 0), .sl 0 0 [] 0 0 0 (some 0), .nat .i64 0, .sl 0 0 [] 0 0 0 (some 0)]]) true (fun _ q => i64S_stable q) rfl (fun β b0 hβ => by
     have e := nilB_cl b0 (show β 9 = (none, 0) from hβ) 1
     simp only [SV.cl, SV.den, denL] at e ⊢
     rw [e]) (fun h hb => by
     have k0 := hb 0 (show (0 : Nat) ≤ 9 by decide)
     have k9 := hb 9 (show (9 : Nat) ≤ 9 by decide)
     simp [Stable, zd_, k0, k9]) rfl (fun n k f e => by cases e) (fun n k f e => by cases e) rfl ?_
  simp only [setH, List.cons_append, List.nil_append]
  refine At.nilIn 2 1 (i64S []) 6 112 (.agg [.sl 9 9 [] 1 0 0 none, .nat .i64 0, .int .i64 (yt_ P v s0), .agg [.nat .i64 0, .bool false, .arr 8 1 (fun _ => .nat .i64 0), .sl 0 0 [] 0 0 0 (some 0), .nat .i64 0, .sl 0 0 [] 0 0 0 (some 0)]]) (.agg [.sl 9 9 [] 1 0 0 none, .nat .i64 0, .int .i64 (yt_ P v s0), .agg [.nat .i64 0, .bool false, .arr 8 1 (fun _ => .nat .i64 0), .sl 10 10 [] 1 0 0 none, .nat .i64 0, .sl 0 0 [] 0 0 0 (some 0)]]) true (fun _ q => i64S_stable q) rfl (fun β b0 hβ => by
     have e := nilB_cl b0 (show β 10 = (none, 0) from hβ) 1
     simp only [SV.cl, SV.den, denL] at e ⊢
     rw [e]) (fun h hb => by
     have k0 := hb 0 (show (0 : Nat) ≤ 10 by decide)
     have k9 := hb 9 (show (9 : Nat) ≤ 10 by decide)
     have k10 := hb 10 (show (10 : Nat) ≤ 10 by decide)
     simp [Stable, zd_, k0, k9, k10]) rfl (fun n k f e => by cases e) (fun n k f e => by cases e) rfl ?_
  simp only [setH, List.cons_append, List.nil_append]
  refine At.nilIn 177 3 (zn_ []) 6 112 (.agg [.sl 9 9 [] 1 0 0 none, .nat .i64 0, .int .i64 (yt_ P v s0), .agg [.nat .i64 0, .bool false, .arr 8 1 (fun _ => .nat .i64 0), .sl 10 10 [] 1 0 0 none, .nat .i64 0, .sl 0 0 [] 0 0 0 (some 0)]]) (.agg [.sl 9 9 [] 1 0 0 none, .nat .i64 0, .int .i64 (yt_ P v s0), .agg [.nat .i64 0, .bool false, .arr 8 1 (fun _ => .nat .i64 0), .sl 10 10 [] 1 0 0 none, .nat .i64 0, .sl 11 11 [] 3 0 0 none]]) true (fun _ q => y5_ q) rfl (fun β b0 hβ => by
     have e := nilB_cl b0 (show β 11 = (none, 0) from hβ) 3
     simp only [SV.cl, SV.den, denL] at e ⊢
     rw [e]) (fun h hb => by
     have k0 := hb 0 (show (0 : Nat) ≤ 11 by decide)
     have k9 := hb 9 (show (9 : Nat) ≤ 11 by decide)
     have k10 := hb 10 (show (10 : Nat) ≤ 11 by decide)
     have k11 := hb 11 (show (11 : Nat) ≤ 11 by decide)
     simp [Stable, zd_, k0, k9, k10, k11]) rfl (fun n k f e => by cases e) (fun n k f e => by cases e) rfl ?_
  simp only [setH, List.cons_append, List.nil_append]
  apply At.endsPick [0, 1, 2, 3, 4, 9, 10, 11] za_ (fn := Tryz.f87) (rs := [.cell 16 112]) Anc.refl hro (lb_ rfl) rfl
  ·exact yi_
  ·exact xf_
  ·rfl
  ·rfl
  ·rfl
  ·exact k29_
  ·rfl
  ·exact k104_
  ·exact zs_
  ·exact fun β => rfl
  ·exact k104_
 have hO := openE_zero hE
 have hP : PG P := ⟨hok, hO.1⟩
 have V := VOk.of hO.2.1
 have hsg : SG P s0 := SG.of hO.2.2 (by rw [← hs0]; simp [ys_])
 have hG : FG P s0 := ⟨hsg, by rw [← hs0]; exact begR_R hy ht hs, by rw [← hs0]; exact hw, by rw [← hs0]; simp [ys_]⟩
 have e : y9_ P v s0 f = xj_ P v f.toNat s0 Ins0 [] 0 := by unfold y9_; rw [hrop, if_pos hE]
 rw [e] at hR
 obtain ⟨B, hB⟩ : ∃ B, runB P v f.toNat s0 false false = B := ⟨_, rfl⟩
 have hF := runA_fc (P := P) (v := v) (s0 := s0) f.toNat s0 Ins0 [] 0 false false (fun _ => rfl) (fun _ => rfl)
 rw [hR, hB] at hF
 have hcs : s0.cells = cs := by rw [← hs0]; rfl
 have hss : s0.sends = [] := by rw [← hs0]; rfl
 rw [hcs, hss] at hF
 obtain ⟨b1, b2⟩ := B
 obtain ⟨tr, ra, rb, ⟨rat, ren, rrg, rce, rdr, rse⟩, rx⟩ := R
 dsimp only at hF
 have hf0 : 0 ≤ f := by omega
 have hf1 : f ≤ 1000000 := by omega
 cases b1 <;> cases b2 <;> (try (have hq1 := hF.1 rfl; subst hq1)) <;> (try (have hq2 := hF.2 rfl; subst hq2))
 all_goals
  refine ze_ (fn := Tryz.f87) 5 45 0 rfl rfl rfl rfl rfl u13_ rfl fun w0 M E hro => ?_
  repeat' (first | refine Ctl.h ?_ | ((with_reducible intro hif); first | (focus (cases hif; done)) | ((try simp only [JH] at hif); try (exfalso; omega))) | ((with_reducible first | apply J22 cWh_ok za_ | apply J23 fol cWh_ok za_ | apply J24); (·rfl); (· (simp only [push_cast, ↓JP, Nat.reduceAdd, Nat.reduceEqDiff, Nat.reduceLT, Nat.reduceMul, Nat.reduceLeDiff, reduceCtorEq, reduceIte, ↓JK, JE, cWh, sRBegin, sRt18, sFrom, sr, evS, y2_, nilS, zw_, zy_, iOf, begin_R, begin_R', hs0', xh_, ls_nil, zb_, Int.cast_ofNat_Int, inR, inN, h1, h2, (eq_true hE), hR, hB, y7_, cond_true, cond_false]; rfl)); (try kernel_rfl); try exact k109_) | fail)
 ·refine At.nilIn 177 3 (zn_ []) 6 112 (.agg [.sl 9 9 [] 1 0 tr.length none, .int .i64 ra, .int .i64 rb, .agg [.int .i64 rat, .bool ren, .arr 8 1 (fun q => .int .i64 (rrg q)), .sl 7 7 [] 1 0 rce.length none, .int .i64 rdr, .sl 0 0 [] 0 0 0 (some 0)]]) (.agg [.sl 9 9 [] 1 0 tr.length none, .int .i64 ra, .int .i64 rb, .agg [.int .i64 rat, .bool ren, .arr 8 1 (fun q => .int .i64 (rrg q)), .sl 7 7 [] 1 0 rce.length none, .int .i64 rdr, .sl 12 12 [] 3 0 0 none]]) true (fun _ q => y5_ q) rfl (fun β b0 hβ => by
     have e := nilB_cl b0 (show β 12 = (none, 0) from hβ) 3
     simp only [SV.cl, SV.den, denL] at e ⊢
     rw [e]) (fun h hb => by
     have k9 := hb 9 (show (9 : Nat) ≤ 12 by decide)
     have kc := hb 7 (show (7 : Nat) ≤ 12 by decide)
     have k12 := hb 12 (show (12 : Nat) ≤ 12 by decide)
     simp [Stable, zd_, k9, kc, k12]) rfl (fun n k f e => by cases e) (fun n k f e => by cases e) rfl ?_
  simp only [setH, List.cons_append, List.nil_append]
  apply At.endsPick [0, 1, 2, 3, 4, 9, 7, 12] za_ (fn := Tryz.f87) (rs := [.cell 16 112]) Anc.refl hro (lb_ rfl) rfl
  ·exact yi_
  ·exact xf_
  ·rfl
  ·rfl
  ·rfl
  ·exact k29_
  ·rfl
  ·exact k104_
  ·exact zs_
  ·exact fun β => rfl
  ·exact k104_
 ·apply At.endsPick [0, 1, 2, 3, 4, 9, 7, 11] za_ (fn := Tryz.f87) (rs := [.cell 16 112]) Anc.refl hro (lb_ rfl) rfl
  ·exact yi_
  ·exact xf_
  ·rfl
  ·rfl
  ·rfl
  ·exact k29_
  ·rfl
  ·exact k104_
  ·exact zs_
  ·exact fun β => rfl
  ·exact k104_
 ·refine At.nilIn 177 3 (zn_ []) 6 112 (.agg [.sl 9 9 [] 1 0 tr.length none, .int .i64 ra, .int .i64 rb, .agg [.int .i64 rat, .bool ren, .arr 8 1 (fun q => .int .i64 (rrg q)), .sl 10 10 [] 1 0 rce.length none, .int .i64 rdr, .sl 0 0 [] 0 0 0 (some 0)]]) (.agg [.sl 9 9 [] 1 0 tr.length none, .int .i64 ra, .int .i64 rb, .agg [.int .i64 rat, .bool ren, .arr 8 1 (fun q => .int .i64 (rrg q)), .sl 10 10 [] 1 0 rce.length none, .int .i64 rdr, .sl 12 12 [] 3 0 0 none]]) true (fun _ q => y5_ q) rfl (fun β b0 hβ => by
     have e := nilB_cl b0 (show β 12 = (none, 0) from hβ) 3
     simp only [SV.cl, SV.den, denL] at e ⊢
     rw [e]) (fun h hb => by
     have k9 := hb 9 (show (9 : Nat) ≤ 12 by decide)
     have kc := hb 10 (show (10 : Nat) ≤ 12 by decide)
     have k12 := hb 12 (show (12 : Nat) ≤ 12 by decide)
     simp [Stable, zd_, k9, kc, k12]) rfl (fun n k f e => by cases e) (fun n k f e => by cases e) rfl ?_
  simp only [setH, List.cons_append, List.nil_append]
  apply At.endsPick [0, 1, 2, 3, 4, 9, 10, 12] za_ (fn := Tryz.f87) (rs := [.cell 16 112]) Anc.refl hro (lb_ rfl) rfl
  ·exact yi_
  ·exact xf_
  ·rfl
  ·rfl
  ·rfl
  ·exact k29_
  ·rfl
  ·exact k104_
  ·exact zs_
  ·exact fun β => rfl
  ·exact k104_
 ·apply At.endsPick [0, 1, 2, 3, 4, 9, 10, 11] za_ (fn := Tryz.f87) (rs := [.cell 16 112]) Anc.refl hro (lb_ rfl) rfl
  ·exact yi_
  ·exact xf_
  ·rfl
  ·rfl
  ·rfl
  ·exact k29_
  ·rfl
  ·exact k104_
  ·exact zs_
  ·exact fun β => rfl
  ·exact k104_
end Go.Proofs.YtjliakjbdcplcaaGreat.Vm
end
section
namespace Go.Proofs.YtjliakjbdcplcaaGreat
open Go.RowKit
theorem reads_new (X : World) (t : TypeId) (cs : Array Value) (k n B gg : Nat) (h : gg = X.heap.size) (hB : gg < B) (hl : cs.size = n * k) : yv_ (X.alloc (.cells cs t)) B k (some ⟨gg, 0, none⟩) n cs.toList := by
 subst h
 refine ⟨by simpa using hl, fun _ => ⟨_, rfl, hB, fun j u hu => ?_⟩⟩
 rw [Addr.add_lit, cell_of_row _ _ _ _ _ _ (heap_alloc_new X _), Nat.zero_add]
 simpa using hu
theorem Blk.row {W : World} {g : Nat} {t : TypeId} {cs : Array Value} (h : Blk W g t cs) (cs' : Array Value) : Blk (W.setRow g cs') g t cs' := setRow_heap _ _ _ _ _ _ h
theorem infoIns : (Tryz.prog.info? 38).map (fun i => (i.zero, i.size, i.bytes)) = some (some (.agg #[.int .u8 0, .int .u8 0, .int .u8 0, .int .u8 0, .int .i64 0]), 5, 16) := by kernel_rfl
def IsRow (w : World) (g k : Nat) : Prop := ∃ t cs, Blk w g t cs ∧ cs.size = k
section
variable {d : Option Tmp} {x y : Operand} {ty : TypeId} {pos : String} {after : Array Edge} {guard : Option (Nat × Bool)} {a : Act} {w : World} {K : Act → World → Prop} {Q : Exit → Act → World → Prop}
end
structure Rd where
 size : Nat
 A : Option Addr
 n : Nat
 xs : List Value
structure Bk where
 g : Nat
 t : TypeId
 cs : Array Value
structure AW (w : World) (L : List Bk) (R : List Rd) (W : World) : Prop where
 b : Below w.heap.size w W
 l : ∀ e ∈ L, Blk W e.g e.t e.cs
 r : ∀ e ∈ R, yv_ W W.heap.size e.size e.A e.n e.xs
section
variable {w W W' : World} {L : List Bk} {R : List Rd}
theorem AW.start (w : World) : AW w [] [⟨1, none, 0, []⟩, ⟨3, none, 0, []⟩] w :=
 ⟨Below.refl _ _, by simp, fun e he => by
  simp only [List.mem_cons, List.not_mem_nil, or_false] at he
  rcases he with rfl | rfl <;> exact yv_.none_⟩
theorem AW.drew (h : AW w L R W) : AW w L R W.drew := ⟨h.b.drew, h.l, h.r⟩
theorem AW.call (h : AW w L R W) (hb : Below W.heap.size W W') : AW w L R W' :=
 ⟨h.b.trans (hb.mono h.b.size), fun e he => (h.l e he).below hb (h.l e he).lt, fun e he => ((h.r e he).below hb).more hb.size⟩
theorem AW.alloc (h : AW w L R W) (o : Obj) : AW w L R (W.alloc o) :=
 ⟨h.b.alloc h.b.size _, fun e he => (h.l e he).alloc _, fun e he => ((h.r e he).alloc (Nat.le_refl _) o).more (by simp)⟩
theorem AW.put (h : AW w L R W) (t : TypeId) (cs : Array Value) : AW w (⟨W.heap.size, t, cs⟩ :: L) R (W.alloc (.cells cs t)) :=
 ⟨(h.alloc _).b, fun e he => by
  rcases List.mem_cons.1 he with rfl | he
  ·exact Blk.new _ _ _
  ·exact (h.alloc _).l e he, (h.alloc _).r⟩
theorem AW.read (h : AW w L R W) {e : Rd} (he : yv_ W W.heap.size e.size e.A e.n e.xs) : AW w L (e :: R) W :=
 ⟨h.b, h.l, fun x hx => by
  rcases List.mem_cons.1 hx with rfl | hx
  ·exact he
  ·exact h.r x hx⟩
theorem AW.array (h : AW w L R W) (t : TypeId) (cs : Array Value) (k n : Nat) (hl : cs.size = n * k) : AW w L (⟨k, some ⟨W.heap.size, 0, none⟩, n, cs.toList⟩ :: R) (W.alloc (.cells cs t)) :=
 (h.alloc _).read (reads_new W t cs k n _ _ rfl (by simp) hl)
theorem AW.less (h : AW w L R W) {L' : List Bk} {R' : List Rd} (hl : L' ⊆ L) (hr : R' ⊆ R) : AW w L' R' W := ⟨h.b, fun e he => h.l e (hl he), fun e he => h.r e (hr he)⟩
theorem IsRow.below {g k : Nat} (h : IsRow W g k) (hb : Below W.heap.size W W') : IsRow W' g k := by
 obtain ⟨t, cs, hB, hk⟩ := h
 exact ⟨t, cs, hB.below hb hB.lt, hk⟩
theorem yv_.call {k n : Nat} {A : Option Addr} {xs : List Value} (h : yv_ W W.heap.size k A n xs) (hb : Below W.heap.size W W') : yv_ W' W'.heap.size k A n xs := (h.below hb).more hb.size
end
end Go.Proofs.YtjliakjbdcplcaaGreat
end
section
namespace Go.Proofs.YtjliakjbdcplcaaGreat
open Go.RowKit
theorem info64 : (Tryz.prog.info? 2).map (fun i => (i.zero, i.size, i.bytes)) = some (some (.int .i64 0), 1, 8) := by kernel_rfl
theorem infoSend : (Tryz.prog.info? 125).map (fun i => (i.zero, i.size, i.bytes)) = some (some (.agg #[.int .i64 0, .int .i64 0, .int .i64 0]), 3, 24) := by kernel_rfl
set_option maxRecDepth 100000 in
set_option maxHeartbeats 1000000 in
theorem clone64_some (ad : Addr) (n c : Nat) (xs : List Value) (w : World) (h : yv_ w w.heap.size 1 (some ad) n xs) (h1 : ∀ u ∈ xs, u.oneCell' = true) (hn : n * 8 ≤ 140737488355328) (hm : n ≤ maxLen) :
    Calls Tryz.prog 35 #[.slice (some ad) n c] w fun e w' => ∃ v, e = .returned v ∧ w'.ownsRow w.heap.size 2 1 v (0 + n) ([] ++ xs) ∧ Below w.heap.size w w' := by
  obtain ⟨i0, hi, hz0, hz1, hz2⟩ := info_parts info64
  have hr := (h.alloc (Nat.le_refl _) (.cells #[] 2))
  have H1 := Lib.hid h1
  have HN := Lib.hid hn
  have HM := Lib.hid hm
  have HR := Lib.hid hr
  clear h h1 hn hm hr
  have kn := fun (w : World) (a : Option Addr) (n c : Nat) => eql_nil (P := Tryz.prog) w 30 2 a n c Tryz.underlying30
  go_enter Tryz.func35, Tryz.ntmps35
  go_wp2_with (at_builtin
               refine wpList_append_any _ rfl (.tmp 5) (.tmp 6) _ rfl w.heap.size 2 i0 _ 1 8 Tryz.underlying30 hi hz0 hz1 hz2 rfl (by omega) (.slice (some ⟨w.heap.size, 0, none⟩) 0 0) 0 [] rfl
                 (World.ownsRow_made w #[] 0 (Nat.le_refl _) (Nat.zero_le _) rfl) w.heap.size (some ad) n c xs rfl HR.out H1.out (by have := HM.out; omega) (by have := HN.out; omega) (by simp) ?_
               intro v1 w1 hown1 hg1 hat1)
  go_ret
  refine ⟨v1, rfl, hown1, ((Below.refl _ w).alloc (Nat.le_refl _) _).grown hg1 (by simp) (fun k hk => ?_)⟩
  rcases hat1 with e | e <;> simp [Value.ownBlock] at hk <;> omega
theorem clone64_nil (n c : Nat) (w : World) :
  Calls Tryz.prog 35 #[.slice none n c] w fun e w' => e = .returned (.slice none 0 0) ∧ w = w' := by
 have kn := fun (w : World) (a : Option Addr) (n c : Nat) => eql_nil (P := Tryz.prog) w 30 2 a n c Tryz.underlying30
 go_enter Tryz.func35, Tryz.ntmps35
 go_wp2
 go_ret
 exact ⟨rfl, rfl⟩
theorem clone64_c (A : Option Addr) (n c : Nat) (xs : List Value) (w : World) (h : yv_ w w.heap.size 1 A n xs) (h1 : ∀ u ∈ xs, u.oneCell' = true) (hn : n * 8 ≤ 140737488355328) :
  Calls Tryz.prog 35 #[.slice A n c] w fun e w' => ∃ v, e = .returned v ∧ w'.ownsRow w.heap.size 2 1 v n xs ∧ Below w.heap.size w w' := by
 cases A with
 | none =>
  have hn0 : n = 0 := by
   rcases Nat.eq_zero_or_pos n with h0 | h0
   ·exact h0
   ·obtain ⟨ad, e, _⟩ := h.2 h0
    cases e
  subst hn0
  have hx : xs = [] := List.eq_nil_of_length_eq_zero (by simpa using h.1)
  subst hx
  refine (clone64_nil 0 c w).mono ?_
  rintro e w' ⟨rfl, rfl⟩
  exact ⟨_, rfl, World.ownsRow_nil _ _ _ _, Below.refl _ _⟩
 | some ad =>
  have hm : n ≤ maxLen := by unfold maxLen; omega
  refine (clone64_some ad n c xs w h h1 hn hm).mono ?_
  rintro e w' ⟨v, rfl, ho, hb⟩
  exact ⟨v, rfl, by simpa using ho, hb⟩
set_option maxRecDepth 100000 in
set_option maxHeartbeats 1000000 in
theorem cloneIns_some (ad : Addr) (n c : Nat) (xs : List Value) (w : World) (h : yv_ w w.heap.size 5 (some ad) n xs) (h1 : ∀ u ∈ xs, u.oneCell' = true) (hn : n * 16 ≤ 140737488355328) (hm : n ≤ maxLen) :
    Calls Tryz.prog 34 #[.slice (some ad) n c] w fun e w' => ∃ v, e = .returned v ∧ w'.ownsRow w.heap.size 38 5 v (0 + n) ([] ++ xs) ∧ Below w.heap.size w w' := by
  obtain ⟨i0, hi, hz0, hz1, hz2⟩ := info_parts infoIns
  have hr := (h.alloc (Nat.le_refl _) (.cells #[] 38))
  have H1 := Lib.hid h1
  have HN := Lib.hid hn
  have HM := Lib.hid hm
  have HR := Lib.hid hr
  clear h h1 hn hm hr
  have kn := fun (w : World) (a : Option Addr) (n c : Nat) => eql_nil (P := Tryz.prog) w 22 38 a n c Tryz.underlying22
  go_enter Tryz.func34, Tryz.ntmps34
  go_wp2_with (at_builtin
               refine wpList_append_any _ rfl (.tmp 5) (.tmp 6) _ rfl w.heap.size 38 i0 _ 5 16 Tryz.underlying22 hi hz0 hz1 hz2 rfl (by omega) (.slice (some ⟨w.heap.size, 0, none⟩) 0 0) 0 [] rfl
                 (World.ownsRow_made w #[] 0 (Nat.le_refl _) (Nat.zero_le _) rfl) w.heap.size (some ad) n c xs rfl HR.out H1.out (by have := HM.out; omega) (by have := HN.out; omega) (by simp) ?_
               intro v1 w1 hown1 hg1 hat1)
  go_ret
  refine ⟨v1, rfl, hown1, ((Below.refl _ w).alloc (Nat.le_refl _) _).grown hg1 (by simp) (fun k hk => ?_)⟩
  rcases hat1 with e | e <;> simp [Value.ownBlock] at hk <;> omega
theorem cloneIns_nil (n c : Nat) (w : World) :
  Calls Tryz.prog 34 #[.slice none n c] w fun e w' => e = .returned (.slice none 0 0) ∧ w = w' := by
 have kn := fun (w : World) (a : Option Addr) (n c : Nat) => eql_nil (P := Tryz.prog) w 22 38 a n c Tryz.underlying22
 go_enter Tryz.func34, Tryz.ntmps34
 go_wp2
 go_ret
 exact ⟨rfl, rfl⟩
theorem cloneIns_c (A : Option Addr) (n c : Nat) (xs : List Value) (w : World) (h : yv_ w w.heap.size 5 A n xs) (h1 : ∀ u ∈ xs, u.oneCell' = true) (hn : n * 16 ≤ 140737488355328) :
  Calls Tryz.prog 34 #[.slice A n c] w fun e w' => ∃ v, e = .returned v ∧ w'.ownsRow w.heap.size 38 5 v n xs ∧ Below w.heap.size w w' := by
 cases A with
 | none =>
  have hn0 : n = 0 := by
   rcases Nat.eq_zero_or_pos n with h0 | h0
   ·exact h0
   ·obtain ⟨ad, e, _⟩ := h.2 h0
    cases e
  subst hn0
  have hx : xs = [] := List.eq_nil_of_length_eq_zero (by simpa using h.1)
  subst hx
  refine (cloneIns_nil 0 c w).mono ?_
  rintro e w' ⟨rfl, rfl⟩
  exact ⟨_, rfl, World.ownsRow_nil _ _ _ _, Below.refl _ _⟩
 | some ad =>
  have hm : n ≤ maxLen := by unfold maxLen; omega
  refine (cloneIns_some ad n c xs w h h1 hn hm).mono ?_
  rintro e w' ⟨v, rfl, ho, hb⟩
  exact ⟨v, rfl, by simpa using ho, hb⟩
set_option maxRecDepth 100000 in
set_option maxHeartbeats 1000000 in
theorem cloneSend_some (ad : Addr) (n c : Nat) (xs : List Value) (w : World) (h : yv_ w w.heap.size 3 (some ad) n xs) (h1 : ∀ u ∈ xs, u.oneCell' = true) (hn : n * 24 ≤ 140737488355328) (hm : n ≤ maxLen) :
    Calls Tryz.prog 123 #[.slice (some ad) n c] w fun e w' => ∃ v, e = .returned v ∧ w'.ownsRow w.heap.size 125 3 v (0 + n) ([] ++ xs) ∧ Below w.heap.size w w' := by
  obtain ⟨i0, hi, hz0, hz1, hz2⟩ := info_parts infoSend
  have hr := (h.alloc (Nat.le_refl _) (.cells #[] 125))
  have H1 := Lib.hid h1
  have HN := Lib.hid hn
  have HM := Lib.hid hm
  have HR := Lib.hid hr
  clear h h1 hn hm hr
  have kn := fun (w : World) (a : Option Addr) (n c : Nat) => eql_nil (P := Tryz.prog) w 40 125 a n c Tryz.underlying40
  go_enter Tryz.func123, Tryz.ntmps123
  go_wp2_with (at_builtin
               refine wpList_append_any _ rfl (.tmp 5) (.tmp 6) _ rfl w.heap.size 125 i0 _ 3 24 Tryz.underlying40 hi hz0 hz1 hz2 rfl (by omega) (.slice (some ⟨w.heap.size, 0, none⟩) 0 0) 0 [] rfl
                 (World.ownsRow_made w #[] 0 (Nat.le_refl _) (Nat.zero_le _) rfl) w.heap.size (some ad) n c xs rfl HR.out H1.out (by have := HM.out; omega) (by have := HN.out; omega) (by simp) ?_
               intro v1 w1 hown1 hg1 hat1)
  go_ret
  refine ⟨v1, rfl, hown1, ((Below.refl _ w).alloc (Nat.le_refl _) _).grown hg1 (by simp) (fun k hk => ?_)⟩
  rcases hat1 with e | e <;> simp [Value.ownBlock] at hk <;> omega
theorem cloneSend_nil (n c : Nat) (w : World) :
  Calls Tryz.prog 123 #[.slice none n c] w fun e w' => e = .returned (.slice none 0 0) ∧ w = w' := by
 have kn := fun (w : World) (a : Option Addr) (n c : Nat) => eql_nil (P := Tryz.prog) w 40 125 a n c Tryz.underlying40
 go_enter Tryz.func123, Tryz.ntmps123
 go_wp2
 go_ret
 exact ⟨rfl, rfl⟩
theorem cloneSend_c (A : Option Addr) (n c : Nat) (xs : List Value) (w : World) (h : yv_ w w.heap.size 3 A n xs) (h1 : ∀ u ∈ xs, u.oneCell' = true) (hn : n * 24 ≤ 140737488355328) :
  Calls Tryz.prog 123 #[.slice A n c] w fun e w' => ∃ v, e = .returned v ∧ w'.ownsRow w.heap.size 125 3 v n xs ∧ Below w.heap.size w w' := by
 cases A with
 | none =>
  have hn0 : n = 0 := by
   rcases Nat.eq_zero_or_pos n with h0 | h0
   ·exact h0
   ·obtain ⟨ad, e, _⟩ := h.2 h0
    cases e
  subst hn0
  have hx : xs = [] := List.eq_nil_of_length_eq_zero (by simpa using h.1)
  subst hx
  refine (cloneSend_nil 0 c w).mono ?_
  rintro e w' ⟨rfl, rfl⟩
  exact ⟨_, rfl, World.ownsRow_nil _ _ _ _, Below.refl _ _⟩
 | some ad =>
  have hm : n ≤ maxLen := by unfold maxLen; omega
  refine (cloneSend_some ad n c xs w h h1 hn hm).mono ?_
  rintro e w' ⟨v, rfl, ho, hb⟩
  exact ⟨v, rfl, by simpa using ho, hb⟩
end Go.Proofs.YtjliakjbdcplcaaGreat
end
section
namespace Go.Proofs.YtjliakjbdcplcaaGreat.Vm
open Go.RowKit
def sClI : yq_ := fun args h m => match args with
 | [v] => match xa_ h 5 (.tup []) v with
  | some (c, n, f, rd) => some (c ∧ (∀ q, q < n → isIns (f q) = true) ∧ n ≤ 1000000, .sl m m [] 5 0 n none, rd, [(m, .own 38 (.arr n 5 (prS (ls zl_ n f))) false)])
  | _ => none
 | _ => none
theorem sClI_ok : zj_ Tryz.prog 34 sClI := by
 refine ⟨zf_ (by kernel_rfl), fun args h m c v rd wr hs hm hc w0 M β h' w R hrd hwr hst => ?_⟩
 unfold sClI at hs
 split at hs
 ·rename_i v0
  split at hs
  ·rename_i c' n f rd' ha
   simp only [Option.some.injEq, Prod.mk.injEq] at hs
   obtain ⟨rfl, rfl, rfl, rfl⟩ := hs
   obtain ⟨hc1, hi, hn⟩ := hc
   obtain ⟨A, cap, hden, hnc, hr⟩ := zg_ R ha hc1 hrd (by omega)
   simp only [denL, hden]
   refine (cloneIns_c A n cap _ w hr (fun u hu => elems_sane u hu) (by omega)).mono fun e w' he => ?_
   obtain ⟨p, rfl, ho, hb⟩ := he
   have hmd : h' m = .dead := (hwr _ (.head _)).trans (hm m (Nat.le_refl _))
   obtain ⟨e', R', hv⟩ := (R.below hb).made (f := prS (ls zl_ n f)) hmd ho R.size (by
     rw [elems_ins hi]
     have := elems_prS (β := β) (ls zl_ n f)
     rwa [zb_] at this) prS_stable (fun g i a' hg hmi hai e => by
    have := R.lt i a' hmi hai
    obtain ⟨_, ⟨rfl, _⟩ | ⟨g', cap', cur, rfl, hg', _⟩⟩ := ho
    ·cases hg
    ·simp [Value.ownBlock] at hg
     omega)
   exact ⟨_, ye_ hmd, R', stable_new, by rw [hv]⟩
  ·cases hs
 ·cases hs
def sCl64 : yq_ := fun args h m => match args with
 | [v] => match xa_ h 1 (.tup []) v with
  | some (c, n, f, rd) => some (c ∧ (∀ q, q < n → isI .i64 (f q) = true) ∧ n ≤ 1000000, .sl m m [] 1 0 n none, rd, [(m, .own 2 (.arr n 1 (i64S (ls iOf n f))) false)])
  | _ => none
 | _ => none
theorem sCl64_ok : zj_ Tryz.prog 35 sCl64 := by
 refine ⟨zf_ (by kernel_rfl), fun args h m c v rd wr hs hm hc w0 M β h' w R hrd hwr hst => ?_⟩
 unfold sCl64 at hs
 split at hs
 ·rename_i v0
  split at hs
  ·rename_i c' n f rd' ha
   simp only [Option.some.injEq, Prod.mk.injEq] at hs
   obtain ⟨rfl, rfl, rfl, rfl⟩ := hs
   obtain ⟨hc1, hi, hn⟩ := hc
   obtain ⟨A, cap, hden, hnc, hr⟩ := zg_ R ha hc1 hrd (by omega)
   simp only [denL, hden]
   refine (clone64_c A n cap _ w hr (fun u hu => elems_sane u hu) (by omega)).mono fun e w' he => ?_
   obtain ⟨p, rfl, ho, hb⟩ := he
   have hmd : h' m = .dead := (hwr _ (.head _)).trans (hm m (Nat.le_refl _))
   obtain ⟨e', R', hv⟩ := (R.below hb).made (f := i64S (ls iOf n f)) hmd ho R.size (by
     rw [elems_i64 hi]
     have := elems_i64S (β := β) (ls iOf n f)
     rwa [zb_] at this) i64S_stable (fun g i a' hg hmi hai e => by
    have := R.lt i a' hmi hai
    obtain ⟨_, ⟨rfl, _⟩ | ⟨g', cap', cur, rfl, hg', _⟩⟩ := ho
    ·cases hg
    ·simp [Value.ownBlock] at hg
     omega)
   exact ⟨_, ye_ hmd, R', stable_new, by rw [hv]⟩
  ·cases hs
 ·cases hs
def sClSn : yq_ := fun args h m => match args with
 | [v] => match xa_ h 3 (.tup []) v with
  | some (c, n, f, rd) => some (c ∧ (∀ q, q < n → isSnd (f q) = true) ∧ n ≤ 1000000, .sl m m [] 3 0 n none, rd, [(m, .own 125 (.arr n 3 (zn_ (ls zv_ n f))) false)])
  | _ => none
 | _ => none
theorem sClSn_ok : zj_ Tryz.prog 123 sClSn := by
 refine ⟨zf_ (by kernel_rfl), fun args h m c v rd wr hs hm hc w0 M β h' w R hrd hwr hst => ?_⟩
 unfold sClSn at hs
 split at hs
 ·rename_i v0
  split at hs
  ·rename_i c' n f rd' ha
   simp only [Option.some.injEq, Prod.mk.injEq] at hs
   obtain ⟨rfl, rfl, rfl, rfl⟩ := hs
   obtain ⟨hc1, hi, hn⟩ := hc
   obtain ⟨A, cap, hden, hnc, hr⟩ := zg_ R ha hc1 hrd (by omega)
   simp only [denL, hden]
   refine (cloneSend_c A n cap _ w hr (fun u hu => elems_sane u hu) (by omega)).mono fun e w' he => ?_
   obtain ⟨p, rfl, ho, hb⟩ := he
   have hmd : h' m = .dead := (hwr _ (.head _)).trans (hm m (Nat.le_refl _))
   obtain ⟨e', R', hv⟩ := (R.below hb).made (f := zn_ (ls zv_ n f)) hmd ho R.size (by
     rw [elems_snd hi]
     have := elems_sndsS (β := β) (ls zv_ n f)
     rwa [zb_] at this) y5_ (fun g i a' hg hmi hai e => by
    have := R.lt i a' hmi hai
    obtain ⟨_, ⟨rfl, _⟩ | ⟨g', cap', cur, rfl, hg', _⟩⟩ := ho
    ·cases hg
    ·simp [Value.ownBlock] at hg
     omega)
   exact ⟨_, ye_ hmd, R', stable_new, by rw [hv]⟩
  ·cases hs
 ·cases hs
def cCp : FuncId → Option yq_ := y3_ [(35, sCl64), (123, sClSn)]
theorem cCp_ok : ∀ f S, cCp f = some S → zj_ Tryz.prog f S := zp_ ⟨sCl64_ok, sClSn_ok, trivial⟩
theorem copied_lit (s : Sta) (p1 p2 : Nat) (hc : s.cells.length ≤ 1000000) (hs : s.sends.length ≤ 1000000) : zo_ Tryz.prog 93 [.agg [.int .i64 s.at_, .bool s.ended, .arr 8 1 (fun q => .int .i64 (s.regs q)), .sl 1 2 [] 1 0 s.cells.length (some p1), .int .i64 s.draws, .sl 3 4 [] 3 0 s.sends.length (some p2)]] [.gone, .gone, .ro (.arr s.cells.length 1 (i64S s.cells)), .gone, .ro (.arr s.sends.length 3 (zn_ s.sends))] (stS s 5 6) [.gone, .gone, .gone, .gone, .gone, cB s, sB s] := by
 refine ze_ (fn := Tryz.f93) 5 12 0 rfl rfl rfl rfl rfl u14_ rfl fun w0 M E hro => ?_
 repeat' (first | refine Ctl.h ?_ | ((with_reducible intro hif); first | (focus (cases hif; done)) | ((try simp only [JH] at hif); try (exfalso; omega))) | ((with_reducible first | apply J22 cCp_ok za_ | apply J23 fol cCp_ok za_ | apply J24); (·rfl); (· (simp only [push_cast, ↓JP, Nat.reduceAdd, Nat.reduceEqDiff, Nat.reduceLT, Nat.reduceMul, Nat.reduceLeDiff, reduceCtorEq, reduceIte, ↓JK, JM, cCp, sCl64, sClSn, JE, inR, inN]; rfl)); (try kernel_rfl); try exact k25_) | fail)
 apply At.endsPick [0, 1, 2, 3, 4, 7, 8] za_ (fn := Tryz.f93) (rs := [.cell 2 60]) Anc.refl hro (lb_ rfl) rfl
 ·exact yi_
 ·exact xf_
 ·rfl
 ·rfl
 ·rfl
 ·exact k29_
 ·rfl
 ·exact yz_
 ·exact zs_
 ·exact fun β => rfl
 ·exact yz_
theorem vright_lit (v : Evi) : zo_ Tryz.prog 138 [.agg [.int .u64 v.seed, .int .i64 v.process, .int .i64 v.ports, .int .i64 v.look, .int .i64 v.now]] [.gone] (.bool v.rightB) [.gone] := by
 refine ze_ (fn := Tryz.f138) 1 31 0 rfl rfl rfl rfl rfl u14_ rfl fun w0 M E hro => ?_
 repeat' (first | refine Ctl.h ?_ | ((with_reducible intro hif); first | (focus (cases hif; done)) | ((try simp only [JH] at hif); try (exfalso; omega))) | ((with_reducible first | apply J22 cCp_ok za_ | apply J23 fol cCp_ok za_ | apply J24); (·rfl); (· exact k110_); (try kernel_rfl); try exact k25_) | fail)
 apply At.endsRet za_ (fn := Tryz.f138) (rs := [.tmp 2]) Anc.refl hro (lb_ rfl) rfl
 ·exact yi_
 ·exact yl_
 ·exact k6_
 ·rfl
 ·exact yz_
 ·exact zs_
 ·intro β; simp [resS, SV.den, Evi.rightB, Bool.and_assoc]
 ·exact yz_
theorem sright_lit (s : Sta) (n : Int) (p1 p2 : Nat) (hc : s.cells.length ≤ 1000000) : zo_ Tryz.prog 139 [.agg [.int .i64 s.at_, .bool s.ended, .arr 8 1 (fun q => .int .i64 (s.regs q)), .sl 1 2 [] 1 0 s.cells.length (some p1), .int .i64 s.draws, .sl 3 4 [] 3 0 s.sends.length (some p2)], .int .i64 n] [.gone, .gone, .ro (.arr s.cells.length 1 (i64S s.cells)), .gone, .ro (.arr s.sends.length 3 (zn_ s.sends))] (.bool (s.rightB n)) [.gone] := by
 refine ze_ (fn := Tryz.f139) 5 30 0 rfl rfl rfl rfl rfl u14_ rfl fun w0 M E hro => ?_
 repeat' (first | refine Ctl.h ?_ | ((with_reducible intro hif); first | (focus (cases hif; done)) | ((try simp only [JH] at hif); try (exfalso; omega))) | ((with_reducible first | apply J22 cCp_ok za_ | apply J23 fol cCp_ok za_ | apply J24); (·rfl); (· exact k110_); (try kernel_rfl); try exact k25_) | fail)
 have e1 : ((s.cells.length : Int) ≤ 1024) ↔ s.cells.length ≤ 1024 := by omega
 apply At.endsRet za_ (fn := Tryz.f139) (rs := [.tmp 4]) Anc.refl hro (lb_ rfl) rfl
 ·exact yi_
 ·exact yl_
 ·exact k6_
 ·rfl
 ·exact yz_
 ·exact zs_
 ·intro β; simp [resS, SV.den, Sta.rightB, Bool.and_assoc, e1]
 ·exact yz_
def sCopied : yq_ := fun args h m => match args with
 | [.agg [v1, .bool v2, .arr 8 1 v3, v4, v5, v6]] => match xa_ h 1 (.tup []) v4, xa_ h 3 (.tup []) v6 with
  | some (c4, n4, f4, r4), some (c6, n6, f6, r6) => bif isI .i64 v1 && isI .i64 v5 then some (c4 ∧ c6 ∧ (∀ q, q < n4 → isI .i64 (f4 q) = true) ∧ (∀ q, q < n6 → isSnd (f6 q) = true) ∧ (∀ q, q < 8 → isI .i64 (v3 q) = true) ∧ (n4 ≤ 1000000) ∧ (n6 ≤ 1000000), stS ⟨(iOf v1), v2, (fun q => iOf (v3 q)), (ls iOf n4 f4), (iOf v5), (ls zv_ n6 f6)⟩ m (m + 1), r4 ++ r6, [(m, cB ⟨(iOf v1), v2, (fun q => iOf (v3 q)), (ls iOf n4 f4), (iOf v5), (ls zv_ n6 f6)⟩), (m + 1, sB ⟨(iOf v1), v2, (fun q => iOf (v3 q)), (ls iOf n4 f4), (iOf v5), (ls zv_ n6 f6)⟩)]) else none
  | _, _ => none
 | _ => none
theorem sCopied_ok : zj_ Tryz.prog 93 sCopied := by
 refine ⟨zf_ (by kernel_rfl), fun args h m c v rd wr hs hm hc w0 M β h' w R hrd hwr hst => ?_⟩
 unfold sCopied at hs
 split at hs
 ·rename_i v1 v2 v3 v4 v5 v6
  split at hs
  ·rename_i c4 n4 f4 r4 c6 n6 f6 r6 a4 a6
   obtain ⟨hb, hs⟩ := zk_ hs
   simp only [Option.some.injEq, Prod.mk.injEq] at hs
   obtain ⟨rfl, rfl, rfl, rfl⟩ := hs
   simp only [Bool.and_eq_true] at hb
   obtain ⟨b1, b5⟩ := hb
   obtain ⟨k4, k6, g4, g6, g3, y1, y2⟩ := hc
   obtain ⟨A4, p4, d4, e4, t4⟩ := zg_ R a4 k4 (fun i hi => hrd i (List.mem_append_left _ hi)) (by omega)
   obtain ⟨A6, p6, d6, e6, t6⟩ := zg_ R a6 k6 (fun i hi => hrd i (List.mem_append_right _ hi)) (by omega)
   refine yf_ (views := [⟨1, (ls iOf n4 f4).length, i64S (ls iOf n4 f4), A4, p4⟩, ⟨3, (ls zv_ n6 f6).length, zn_ (ls zv_ n6 f6), A6, p6⟩]) (copied_lit ⟨(iOf v1), v2, (fun q => iOf (v3 q)), (ls iOf n4 f4), (iOf v5), (ls zv_ n6 f6)⟩ p4 p6 (by rw [zb_]; exact y1) (by rw [zb_]; exact y2)) ?_ R hm hwr ?_ ?_ ?_
   ·intro x hx
    simp only [List.mem_cons, List.not_mem_nil, or_false] at hx
    rcases hx with rfl | rfl
    ·exact z0_ t4 e4 g4
    ·exact viewSnd t6 e6 g6
   ·intro β1 hv
    simp only [Vd, zb_, and_true] at hv
    obtain ⟨z4, z6⟩ := hv
    simp only [denL, z7_, z6_, z5_, zr_, zb_, z4, z6, d4, d6, zc_ b1, zc_ b5, ← r8Den (β := β) (β1 := β1) g3]
   ·exact yz_
   ·exact yz_
  ·cases hs
 ·cases hs
def sVRight : yq_ := fun args h m => match args with
 | [.agg [v1, v2, v3, v4, v5]] => bif isI .u64 v1 && isI .i64 v2 && isI .i64 v3 && isI .i64 v4 && isI .i64 v5 then some (True, .bool (Evi.rightB ⟨(iOf v1), (iOf v2), (iOf v3), (iOf v4), (iOf v5)⟩), [], []) else none
 | _ => none
theorem sVRight_ok : zj_ Tryz.prog 138 sVRight := by
 refine ⟨zf_ (by kernel_rfl), fun args h m c v rd wr hs hm hc w0 M β h' w R hrd hwr hst => ?_⟩
 unfold sVRight at hs
 split at hs
 ·rename_i v1 v2 v3 v4 v5
  obtain ⟨hb, hs⟩ := zk_ hs
  simp only [Option.some.injEq, Prod.mk.injEq] at hs
  obtain ⟨rfl, rfl, rfl, rfl⟩ := hs
  simp only [Bool.and_eq_true] at hb
  obtain ⟨⟨⟨⟨b1, b2⟩, b3⟩, b4⟩, b5⟩ := hb
  refine yf_ (views := []) (vright_lit ⟨(iOf v1), (iOf v2), (iOf v3), (iOf v4), (iOf v5)⟩) ?_ R hm hwr ?_ ?_ ?_
  ·intro x hx; cases hx
  ·intro β1 hv
   simp only [denL, z7_, z6_, z5_, zr_, zb_, zc_ b1, zc_ b2, zc_ b3, zc_ b4, zc_ b5]
  ·exact yz_
  ·exact yz_
 ·cases hs
def sSRight : yq_ := fun args h m => match args with
 | [.agg [v1, .bool v2, .arr 8 1 v3, v4, v5, v6], v7] => match xa_ h 1 (.tup []) v4, xa_ h 3 (.tup []) v6 with
  | some (c4, n4, f4, r4), some (c6, n6, f6, r6) => bif isI .i64 v1 && isI .i64 v5 && isI .i64 v7 then some (c4 ∧ c6 ∧ (∀ q, q < n4 → isI .i64 (f4 q) = true) ∧ (∀ q, q < n6 → isSnd (f6 q) = true) ∧ (∀ q, q < 8 → isI .i64 (v3 q) = true) ∧ (n4 ≤ 1000000), .bool (Sta.rightB ⟨(iOf v1), v2, (fun q => iOf (v3 q)), (ls iOf n4 f4), (iOf v5), (ls zv_ n6 f6)⟩ (iOf v7)), r4 ++ r6, []) else none
  | _, _ => none
 | _ => none
theorem sSRight_ok : zj_ Tryz.prog 139 sSRight := by
 refine ⟨zf_ (by kernel_rfl), fun args h m c v rd wr hs hm hc w0 M β h' w R hrd hwr hst => ?_⟩
 unfold sSRight at hs
 split at hs
 ·rename_i v1 v2 v3 v4 v5 v6 v7
  split at hs
  ·rename_i c4 n4 f4 r4 c6 n6 f6 r6 a4 a6
   obtain ⟨hb, hs⟩ := zk_ hs
   simp only [Option.some.injEq, Prod.mk.injEq] at hs
   obtain ⟨rfl, rfl, rfl, rfl⟩ := hs
   simp only [Bool.and_eq_true] at hb
   obtain ⟨⟨b1, b5⟩, b7⟩ := hb
   obtain ⟨k4, k6, g4, g6, g3, y1⟩ := hc
   obtain ⟨A4, p4, d4, e4, t4⟩ := zg_ R a4 k4 (fun i hi => hrd i (List.mem_append_left _ hi)) (by omega)
   obtain ⟨A6, p6, d6, e6, t6⟩ := zg_ R a6 k6 (fun i hi => hrd i (List.mem_append_right _ hi)) (by omega)
   refine yf_ (views := [⟨1, (ls iOf n4 f4).length, i64S (ls iOf n4 f4), A4, p4⟩, ⟨3, (ls zv_ n6 f6).length, zn_ (ls zv_ n6 f6), A6, p6⟩]) (sright_lit ⟨(iOf v1), v2, (fun q => iOf (v3 q)), (ls iOf n4 f4), (iOf v5), (ls zv_ n6 f6)⟩ (iOf v7) p4 p6 (by rw [zb_]; exact y1)) ?_ R hm hwr ?_ ?_ ?_
   ·intro x hx
    simp only [List.mem_cons, List.not_mem_nil, or_false] at hx
    rcases hx with rfl | rfl
    ·exact z0_ t4 e4 g4
    ·exact viewSnd t6 e6 g6
   ·intro β1 hv
    simp only [Vd, zb_, and_true] at hv
    obtain ⟨z4, z6⟩ := hv
    simp only [denL, z7_, z6_, z5_, zr_, zb_, z4, z6, d4, d6, zc_ b1, zc_ b5, zc_ b7, ← r8Den (β := β) (β1 := β1) g3]
   ·exact yz_
   ·exact yz_
  ·cases hs
 ·cases hs
def prT (P : List Ins) : HB := .own 175 (.arr P.length 5 (prS P)) false
theorem getD_app_l {α : Type} {l m : List α} {q : Nat} {d : α} (h : q < l.length) : (l ++ m).getD q d = l.getD q d := by
 rw [List.getD_eq_getElem?_getD, List.getD_eq_getElem?_getD, List.getElem?_append_left h]
theorem less_catQ {t : Nat} {σ : Nat → Nat} {b : Bool} (S : List Ins) (x : Ins) {n : Nat} {U : List Ins} (hn : S.length = n) (hU : S ++ [x] = U) {m : Nat} (hm : m = U.length) {g : Nat → SV} {xv z : SV} (hg : g = fun q => SV.ite (decide (q < n)) (yo_ (S.getD q ⟨0, 0, 0, 0, 0⟩)) ([xv].getD (q - n) z)) (hx : ∀ β, xv.cl β = x.cells) :
  Less (.own t (.arr m 5 g) b) ((HB.own t (.arr m 5 (prS U)) b).ren σ) := by
 subst hm
 have e : (HB.own t (.arr U.length 5 (prS U)) b).ren σ = .own t (.arr U.length 5 (prS U)) b := by
  simp only [HB.ren, SV.ren]; rw [prS_ren]
 rw [e]
 refine .val (fun β => arrCl fun q hq => ?_) (fun n1 k1 f1 e => by injection e with e1 e2 e3; subst e1 e2; exact ⟨_, rfl⟩) (fun n1 k1 f1 e => by injection e with e1 e2 e3; subst e1 e2; exact ⟨_, rfl⟩)
 subst hg hU hn
 dsimp only
 rw [y7_]
 unfold prS
 by_cases h : q < S.length
 ·simp only [h, decide_true, cond_true]
  rw [getD_app_l h]
 ·have hq' : q = S.length := by rw [List.length_append] at hq; simp at hq; omega
  subst hq'
  simp only [h, decide_false, cond_false, Nat.sub_self, List.getD_cons_zero, hx]
  rw [List.getD_eq_getElem?_getD, List.getElem?_append_right (Nat.le_refl _), Nat.sub_self, isIns_cl (z4_ _), yh_]; rfl
theorem prS_st (P : List Ins) (h : HM) (q : Nat) : Stable h (prS P q) := by simp [prS, yo_, Stable, zd_]
theorem take_sn {l : List Ins} {k : Nat} (hk : k < l.length) : l.take k ++ [l.getD k ⟨0, 0, 0, 0, 0⟩] = l.take (k + 1) := by
 rw [List.getD_eq_getElem?_getD, List.getElem?_eq_getElem hk, List.take_add_one, List.getElem?_eq_getElem hk]; rfl
theorem th14_lit (P : List Ins) (p1 : Nat) (hn : P.length ≤ 1000000) : zo_ Tryz.prog 37 [.sl 1 2 [] 5 0 P.length (some p1)] [.gone, .gone, .ro (.arr P.length 5 (prS P))] (.sl 3 3 [] 5 0 P.length none) [.gone, .gone, .gone, prT P] := by
 refine ze_ (fn := Tryz.f37) 3 18 0 rfl rfl rfl rfl rfl (by simp only [zd_, Stable, hp, i64S, prS, yo_, zn_, sndS, prT, HB.stable]; simp [HB.born]) rfl fun w0 M E hro => ?_
 repeat' (first | refine Ctl.h ?_ | ((with_reducible intro hif); first | (focus (cases hif; done)) | ((try simp only [JH] at hif); try (exfalso; omega))) | ((with_reducible first | apply J22 zq_ za_ | apply J23 fol zq_ za_ | apply J24); (·rfl); (· exact k71_); (try kernel_rfl); try exact yk_) | fail)
 refine WF.nilFr (φ2 := [(3, .sl 3 3 [] 5 0 0 none), (6, .sl 1 2 [] 5 0 P.length (some p1)), (7, .nat .i64 P.length), (8, .nat .i64 0)]) 175 5 (prS []) (fun h q => prS_st [] h q) rfl ?_ ?_ ?_
 ·refine ⟨⟨_, rfl, fun β h0 hx => (nilB_cl h0 (show β 3 = (none, 0) from hx) 5).symm⟩, ⟨_, rfl, fun β _ _ => rfl⟩, ⟨_, rfl, fun β _ _ => rfl⟩, ⟨_, rfl, fun β _ _ => rfl⟩, trivial⟩
 ·simp [StableF, Stable, hp, HB.born]
 simp only [List.cons_append, List.nil_append]
 have hz : Less (.own 175 (.arr 0 5 (prS [])) false) (.own 175 (.arr 0 5 (prS (P.take 0))) false) := .same _
 refine WF.loopAt (fun (j : Nat) => j ≤ P.length) (fun (j : Nat) => [(3, .sl 3 3 [] 5 0 j none), (6, .sl 1 2 [] 5 0 P.length (some p1)), (7, .nat .i64 P.length), (8, .nat .i64 j)]) (fun (j : Nat) => [.gone, .gone, .ro (.arr P.length 5 (prS P)), .own 175 (.arr j 5 (prS (P.take j))) false]) (fun (j : Nat) => P.length - j) 0 (Nat.zero_le _) ?_ ?_ rfl ?_ ?_ rfl ?_
 ·exact k5_
 ·exact k6_
 ·exact k105_
 ·exact k105_
 intro j hj
 by_cases hjl : j < P.length
 ·have hTl : (P.take j).length = j := by rw [List.length_take]; omega
  have hUl : j + 1 = (P.take (j + 1)).length := by rw [List.length_take]; omega
  repeat' (first | refine Ctl.h ?_ | ((with_reducible intro hif); first | (focus (cases hif; done)) | ((try simp only [JH] at hif); try (exfalso; omega))) | ((with_reducible first | apply J22 zq_ za_ | apply J23 fol zq_ za_ | apply J24); (·rfl); (· (simp only [push_cast, ↓JP, Nat.reduceAdd, Nat.reduceEqDiff, Nat.reduceLT, Nat.reduceMul, Nat.reduceLeDiff, reduceCtorEq, reduceIte, ↓JK, hjl, inR, inN, List.all_cons, List.all_nil]; rfl)); (try kernel_rfl); try exact k25_) | fail)
  refine At.nextPick [0, 1, 2, 6] (j + 1) ?_ rfl rfl rfl ?_ rfl ?_ ?_ ?_ rfl
  ·omega
  ·(repeat' (first | exact trivial | exact .inl rfl | exact .inr (.same _) | exact .inr .loose | exact .inr (.arr (by assumption)) | apply And.intro | (exact .inr (less_catQ (P.take j) (P.getD j ⟨0, 0, 0, 0, 0⟩) hTl (take_sn hjl) hUl rfl (fun β => by rw [isIns_cl (z4_ _), yh_])))))
  ·exact k105_
  ·exact k16_
  ·exact k105_
 ·obtain rfl : j = P.length := by omega
  repeat' (first | refine Ctl.h ?_ | ((with_reducible intro hif); first | (focus (cases hif; done)) | ((try simp only [JH] at hif); try (exfalso; omega))) | ((with_reducible first | apply J22 zq_ za_ | apply J23 fol zq_ za_ | apply J24); (·rfl); (· exact k111_); (try kernel_rfl); try exact yk_) | fail)
  apply At.endsPick [0, 1, 2, 3] za_ (fn := Tryz.f37) (rs := [.tmp 2]) Anc.refl hro (lb_ rfl) rfl
  ·exact yi_
  ·exact xf_
  ·rfl
  ·rfl
  ·rfl
  ·exact k106_
  ·rfl
  ·exact k105_
  ·exact zs_
  ·exact fun β => rfl
  ·exact k105_
def sTh14 : yq_ := fun args h m => match args with
 | [v1] => match xa_ h 5 (.tup []) v1 with
  | some (c1, n1, f1, r1) => some (c1 ∧ (∀ q, q < n1 → isIns (f1 q) = true) ∧ (n1 ≤ 1000000), .sl m m [] 5 0 (ls zl_ n1 f1).length none, r1, [(m, prT (ls zl_ n1 f1))])
  | _ => none
 | _ => none
theorem sTh14_ok : zj_ Tryz.prog 37 sTh14 := by
 refine ⟨zf_ (by kernel_rfl), fun args h m c v rd wr hs hm hc w0 M β h' w R hrd hwr hst => ?_⟩
 unfold sTh14 at hs
 split at hs
 ·rename_i v1
  split at hs
  ·rename_i c1 n1 f1 r1 a1
   simp only [Option.some.injEq, Prod.mk.injEq] at hs
   obtain ⟨rfl, rfl, rfl, rfl⟩ := hs
   obtain ⟨k1, g1, y1⟩ := hc
   obtain ⟨A1, p1, d1, e1, t1⟩ := zg_ R a1 k1 (fun i hi => hrd i hi) (by omega)
   refine yf_ (views := [⟨5, (ls zl_ n1 f1).length, prS (ls zl_ n1 f1), A1, p1⟩]) (th14_lit (ls zl_ n1 f1) p1 (by rw [zb_]; exact y1)) ?_ R hm hwr ?_ ?_ ?_
   ·intro x hx
    simp only [List.mem_cons, List.not_mem_nil, or_false] at hx
    subst hx
    ·exact xn_ t1 e1 g1
   ·intro β1 hv
    simp only [Vd, zb_, and_true] at hv
    have z1 := hv
    simp only [denL, z7_, z6_, z5_, zr_, zb_, z1, d1]
   ·exact k105_
   ·exact k105_
  ·cases hs
 ·cases hs
theorem less_catR {t : Nat} {σ : Nat → Nat} {b : Bool} (S : List Snd) (x : Snd) {n : Nat} {U : List Snd} (hn : S.length = n) (hU : S ++ [x] = U) {m : Nat} (hm : m = U.length) {g : Nat → SV} {xv z : SV} (hg : g = fun q => SV.ite (decide (q < n)) (sndS (S.getD q ⟨0, 0, 0⟩)) ([xv].getD (q - n) z)) (hx : ∀ β, xv.cl β = (sndS x).cl β) :
  Less (.own t (.arr m 3 g) b) ((HB.own t (.arr m 3 (zn_ U)) b).ren σ) := by
 subst hm
 have e : (HB.own t (.arr U.length 3 (zn_ U)) b).ren σ = .own t (.arr U.length 3 (zn_ U)) b := by
  simp only [HB.ren, SV.ren]; rw [sndsS_ren]
 rw [e]
 refine .val (fun β => arrCl fun q hq => ?_) (fun n1 k1 f1 e => by injection e with e1 e2 e3; subst e1 e2; exact ⟨_, rfl⟩) (fun n1 k1 f1 e => by injection e with e1 e2 e3; subst e1 e2; exact ⟨_, rfl⟩)
 subst hg hU hn
 dsimp only
 rw [y7_]
 unfold zn_
 by_cases h : q < S.length
 ·simp only [h, decide_true, cond_true]
  rw [getD_app_l h]
 ·have hq' : q = S.length := by rw [List.length_append] at hq; simp at hq; omega
  subst hq'
  simp only [h, decide_false, cond_false, Nat.sub_self, List.getD_cons_zero, hx]
  rw [List.getD_eq_getElem?_getD, List.getElem?_append_right (Nat.le_refl _), Nat.sub_self]; rfl
theorem take_snS {l : List Snd} {k : Nat} (hk : k < l.length) : l.take k ++ [l.getD k ⟨0, 0, 0⟩] = l.take (k + 1) := by
 rw [List.getD_eq_getElem?_getD, List.getElem?_eq_getElem hk, List.take_add_one, List.getElem?_eq_getElem hk]; rfl
def cTh18 : FuncId → Option yq_ := y3_ [(35, sCl64)]
theorem cTh18_ok : ∀ f S, cTh18 f = some S → zj_ Tryz.prog f S := zp_ ⟨sCl64_ok, trivial⟩
theorem th18_lit (s : Sta) (p1 p2 : Nat) (hc : s.cells.length ≤ 1000000) (hs : s.sends.length ≤ 1000000) : zo_ Tryz.prog 42 [.agg [.int .i64 s.at_, .bool s.ended, .arr 8 1 (fun q => .int .i64 (s.regs q)), .sl 1 2 [] 1 0 s.cells.length (some p1), .int .i64 s.draws, .sl 3 4 [] 3 0 s.sends.length (some p2)]] [.gone, .gone, .ro (.arr s.cells.length 1 (i64S s.cells)), .gone, .ro (.arr s.sends.length 3 (zn_ s.sends))]
  (sr s (.sl 5 5 [] 1 0 s.cells.length none) (.sl 6 6 [] 3 0 s.sends.length none)) [.gone, .gone, .gone, .gone, .gone, cRf s.cells, sRf s.sends] := by
 refine ze_ (fn := Tryz.f42) 5 33 0 rfl rfl rfl rfl rfl (by simp only [zd_, Stable, hp, i64S, prS, yo_, zn_, sndS, prT, cRf, sRf, sr, HB.stable]; simp [HB.born]) rfl fun w0 M E hro => ?_
 repeat' (first | refine Ctl.h ?_ | ((with_reducible intro hif); first | (focus (cases hif; done)) | ((try simp only [JH] at hif); try (exfalso; omega))) | ((with_reducible first | apply J22 cTh18_ok za_ | apply J23 fol cTh18_ok za_ | apply J24); (·rfl); (· (simp only [push_cast, ↓JP, Nat.reduceAdd, Nat.reduceEqDiff, Nat.reduceLT, Nat.reduceMul, Nat.reduceLeDiff, reduceCtorEq, reduceIte, ↓JK, JE, cTh18, sCl64, y6_, yy_, cRf, sRf, sr, inR, inN]; rfl)); (try kernel_rfl); (try (focus (first | exact True.intro | ((try simp only [implies_true, forall_const, y6_, yy_, zb_, Nat.zero_add]); (repeat' (first | exact True.intro | assumption | omega | apply And.intro | rfl | intro _)); done) | ((try simp only [JS, implies_true, forall_const, z9_, z2_, kndOf, inR, inN]); (repeat' (first | assumption | exact True.intro | omega | apply And.intro)); done))))) | fail)
 refine WF.nilIn 177 3 (zn_ []) 8 105 (.agg [.int .i64 s.at_, .bool s.ended, .arr 8 1 (fun q => .int .i64 (s.regs q)), .sl 7 7 [] 1 0 s.cells.length none, .int .i64 s.draws, .sl 0 0 [] 0 0 0 (some 0)]) (.agg [.int .i64 s.at_, .bool s.ended, .arr 8 1 (fun q => .int .i64 (s.regs q)), .sl 7 7 [] 1 0 s.cells.length none, .int .i64 s.draws, .sl 9 9 [] 3 0 0 none]) true (fun _ q => y5_ q) rfl (fun β b0 hβ => by
   have e := nilB_cl b0 (show β 9 = (none, 0) from hβ) 3
   simp only [SV.cl, SV.den, denL] at e ⊢
   rw [e]) (fun h hb => by
   have k7 := hb 7 (show (7 : Nat) ≤ 9 by decide)
   have k9 := hb 9 (show (9 : Nat) ≤ 9 by decide)
   simp [Stable, zd_, k7, k9]) rfl (fun n k f e => by cases e) (fun n k f e => by cases e) rfl ?_
 simp only [setH, List.cons_append, List.nil_append]
 have hz : Less (.own 177 (.arr 0 3 (zn_ [])) false) (.own 177 (.arr 0 3 (zn_ (s.sends.take 0))) false) := .same _
 refine WF.loopAt (fun (j : Nat) => j ≤ s.sends.length) (fun (j : Nat) => [(2, .ptr 6 []), (3, .ptr 8 []), (19, .sl 3 4 [] 3 0 s.sends.length (some p2)), (20, .nat .i64 s.sends.length), (21, .nat .i64 j)]) (fun (j : Nat) => [.gone, .gone, .ro (.arr s.cells.length 1 (i64S s.cells)), .gone, .ro (.arr s.sends.length 3 (zn_ s.sends)), .gone, .own 105 (.agg [.nat .i64 0, .bool false, .arr 8 1 (fun _ => .nat .i64 0), .sl 0 0 [] 0 0 0 (some 0), .nat .i64 0, .sl 0 0 [] 0 0 0 (some 0)]) true, cRf s.cells, .own 105 (.agg [.int .i64 s.at_, .bool s.ended, .arr 8 1 (fun q => .int .i64 (s.regs q)), .sl 7 7 [] 1 0 s.cells.length none, .int .i64 s.draws, .sl 9 9 [] 3 0 j none]) true, .own 177 (.arr j 3 (zn_ (s.sends.take j))) false]) (fun (j : Nat) => s.sends.length - j) 0 (Nat.zero_le _) ?_ ?_ rfl ?_ ?_ rfl ?_
 ·exact k5_
 ·exact k6_
 ·exact k107_
 ·exact k107_
 intro j hj
 by_cases hjl : j < s.sends.length
 ·have hTl : (s.sends.take j).length = j := by rw [List.length_take]; omega
  have hUl : j + 1 = (s.sends.take (j + 1)).length := by rw [List.length_take]; omega
  repeat' (first | refine Ctl.h ?_ | ((with_reducible intro hif); first | (focus (cases hif; done)) | ((try simp only [JH] at hif); try (exfalso; omega))) | ((with_reducible first | apply J22 cTh18_ok za_ | apply J23 fol cTh18_ok za_ | apply J24); (·rfl); (· (simp only [push_cast, ↓JP, Nat.reduceAdd, Nat.reduceEqDiff, Nat.reduceLT, Nat.reduceMul, Nat.reduceLeDiff, reduceCtorEq, reduceIte, ↓JK, hjl, inR, inN, sndS, List.all_cons, List.all_nil]; rfl)); (try kernel_rfl); try exact k25_) | fail)
  refine At.nextPick [0, 1, 2, 3, 4, 5, 6, 7, 8, 12] (j + 1) ?_ rfl rfl rfl ?_ rfl ?_ ?_ ?_ rfl
  ·omega
  ·(repeat' (first | exact trivial | exact .inl rfl | exact .inr (.same _) | exact .inr .loose | exact .inr (.arr (by assumption)) | apply And.intro | (exact .inr (less_catR (s.sends.take j) (s.sends.getD j ⟨0, 0, 0⟩) hTl (take_snS hjl) hUl rfl (fun β => rfl)))))
  ·exact k107_
  ·exact k16_
  ·exact k107_
 ·obtain rfl : j = s.sends.length := by omega
  repeat' (first | refine Ctl.h ?_ | ((with_reducible intro hif); first | (focus (cases hif; done)) | ((try simp only [JH] at hif); try (exfalso; omega))) | ((with_reducible first | apply J22 cTh18_ok za_ | apply J23 fol cTh18_ok za_ | apply J24); (·rfl); (· exact k111_); (try kernel_rfl); try exact yk_) | fail)
  apply At.endsPick [0, 1, 2, 3, 4, 7, 9] za_ (fn := Tryz.f42) (rs := [.cell 2 105]) Anc.refl hro (lb_ rfl) rfl
  ·exact yi_
  ·exact xf_
  ·rfl
  ·rfl
  ·rfl
  ·exact k106_
  ·rfl
  ·exact k107_
  ·exact zs_
  ·exact fun β => rfl
  ·exact k107_
end Go.Proofs.YtjliakjbdcplcaaGreat.Vm
end
end

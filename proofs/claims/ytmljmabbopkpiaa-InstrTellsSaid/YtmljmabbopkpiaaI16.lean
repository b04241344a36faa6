import Derived.Test.YtmljmabbopkpiaaI5
import Derived.Test.YtmljmabbopkpiaaI6
import Derived.Test.YtmljmabbopkpiaaI11
import Derived.Test.YtmljmabbopkpiaaI12
import Derived.Test.YtmljmabbopkpiaaI15
set_option linter.unusedSimpArgs false
set_option linter.unusedVariables false
set_option maxRecDepth 100000
set_option maxHeartbeats 4000000
section
namespace Go.Proofs.Ytmljmabbopkpiaa.Vm
theorem u9_ {P : Prop} (h : P := by simp only [ze_, zc_, hp, i64S, prS, yl_, sndsS, sndS, stS, evS, macS, mB, cB, sB, HB.stable]; simp [HB.born]) : P := h
theorem u10_ {P : Prop} (h : P := by simp only [ze_, zc_, hp, i64S, prS, yl_, sndsS, sndS]; simp [HB.born]) : P := h
theorem k86_ {P : Prop} (h : P := by (repeat' (first | exact trivial | exact rfl | assumption | apply zc_.ite | apply And.intro | intro _ | (simp only [zc_, ze_, i64S, prS, yl_, sndsS, sndS, stS, evS, macS, mB, cB, sB, HB.stable]; done)))) : P := h
theorem k87_ {P : Prop} (h : P := by refine ⟨⟨hkl, fun i hi y hy => ?_⟩, by omega⟩; by_cases h : i = k; (subst h; rw [hx2] at hy; cases hy; exact eb); exact hB i (by omega) y hy) : P := h
theorem k88_ {P : Prop} (h : P := by (first | exact True.intro | ((try simp only [JS, implies_true, forall_const, z7_, z5_, kndOf, inR, inN]); (first | first | omega | exact ⟨hP, hn⟩ | (repeat' (first | assumption | exact True.intro | omega | apply And.intro))); done))) : P := h
theorem k89_ {P : Prop} (h : P := by (simp only [push_cast, ↓JP, Nat.reduceAdd, Nat.reduceEqDiff, Nat.reduceLT, Nat.reduceMul, Nat.reduceLeDiff, reduceCtorEq, reduceIte, ↓JK, JM, cOp, sCheck, sVRight, sSRight, sCopied, JE, inR, inN, q1, q2, q3]; rfl)) : P := h
theorem k90_ {P : Prop} (h : P := by (simp only [push_cast, ↓JP, Nat.reduceAdd, Nat.reduceEqDiff, Nat.reduceLT, Nat.reduceMul, Nat.reduceLeDiff, reduceCtorEq, reduceIte, hjl, hc, inR, inN]; rfl)) : P := h
theorem k91_ {P : Prop} (h : P := by (simp only [push_cast, ↓JP, Nat.reduceAdd, Nat.reduceEqDiff, Nat.reduceLT, Nat.reduceMul, Nat.reduceLeDiff, reduceCtorEq, reduceIte, ↓JK]; rfl)) : P := h
theorem k92_ {P : Prop} (h : P := by (simp only [push_cast, ↓JP, Nat.reduceAdd, Nat.reduceEqDiff, Nat.reduceLT, Nat.reduceMul, Nat.reduceLeDiff, reduceCtorEq, reduceIte, ↓JK, h0, h256]; rfl)) : P := h
theorem k93_ {P : Prop} (h : P := by (first | exact True.intro | ((try simp only [JS, implies_true, forall_const, z7_, z5_, kndOf, inR, inN]); (first | first | omega | assumption | (repeat' (first | assumption | exact True.intro | omega | apply And.intro))); done))) : P := h
theorem k94_ {P : Prop} (h : P := by (simp only [push_cast, ↓JP, Nat.reduceAdd, Nat.reduceEqDiff, Nat.reduceLT, Nat.reduceMul, Nat.reduceLeDiff, reduceCtorEq, reduceIte, ↓JK, evm_in1, cRCk, sROne, sRTarg, sRGoes, hkl, hx, he, ht, hv, inR, inN]; rfl)) : P := h
theorem k95_ {P : Prop} (h : P := by (simp only [push_cast, ↓JP, Nat.reduceAdd, Nat.reduceEqDiff, Nat.reduceLT, Nat.reduceMul, Nat.reduceLeDiff, reduceCtorEq, reduceIte, ↓JK, evm_in1, cRCk, sROne, sRTarg, sRGoes, hkl, hx, hg, hlm, inR, inN]; rfl)) : P := h
end Go.Proofs.Ytmljmabbopkpiaa.Vm
end
section
namespace Go.Proofs.Ytmljmabbopkpiaa.Vm
open Go.RowKit
structure PG (P : List Ins) : Prop where
 ok : ∀ x ∈ P, x.ok
 chk : (checkI P).2 = 0
structure SG (P : List Ins) (s : Sta) : Prop where
 a0 : 0 ≤ s.at_
 a1 : s.at_ < P.length
 d0 : 0 ≤ s.draws
 d1 : s.draws ≤ 1099511627776
 c1 : s.cells.length ≤ 1024
 n1 : s.sends.length ≤ 1000000
theorem PG.len {P : List Ins} (h : PG P) : P.length ≤ 256 := (right_last' h.chk).2.1
theorem SG.sok {P : List Ins} {s : Sta} (h : SG P s) (hP : PG P) : SOk s := ⟨h.a0, by have := h.a1; have := hP.len; omega, h.d0, h.d1, h.c1, h.n1⟩
theorem SG.ri {P : List Ins} {s : Sta} (h : SG P s) (hP : PG P) : RI (insAt P s.at_) := ri_at hP.ok hP.chk (by have := h.a0; have := h.a1; omega)
theorem SG.of {P : List Ins} {s : Sta} (h : s.rightB P.length = true) (hn : s.sends.length ≤ 1000000) : SG P s := by
 have := of_decide_eq_true (show decide _ = true from h)
 exact ⟨by omega, by omega, by omega, by omega, by omega, hn⟩
theorem doS_good {P : List Ins} {s : Sta} {v : Evi} (h : SG P s) (hP : PG P) : SG P (doS s v (insAt P s.at_)) := by
 by_cases he : doE s v (insAt P s.at_) ≠ 0
 ·rw [doS_bad he]; exact h
 ·have hR := right_at hP.ok hP.chk (k := s.at_.toNat) (by have := h.a0; have := h.a1; omega)
  have hx : P.getD s.at_.toNat ⟨0, 0, 0, 0, 0⟩ = insAt P s.at_ := rfl
  rw [hx] at hR
  generalize insAt P s.at_ = x at *
  obtain ⟨a0, a1, d0, d1, c1, n1⟩ := h
  have hg := goesB_of hR.one
  have ht := targB_of hR.one
  have hgo : x.op ≠ 1 → x.op ≠ 2 → x.op ≠ 9 → s.at_ + 1 < P.length := fun h1 h2 h9 => by
   have := hR.goes (by rw [hg]; simp [h1, h2, h9])
   omega
  have hta : (x.op = 9 ∨ x.op = 10 ∨ x.op = 11) → 0 ≤ x.n ∧ x.n < P.length := fun hj => by
   have hb : targB x = true := by rw [ht]; rcases hj with e | e | e <;> simp [e]
   have := hR.targ hb
   unfold targV at this
   rwa [if_pos hb] at this
  have h2 : x.op ≠ 2 := fun e => he (by simp [doE, e])
  have hE : doE s v x = 0 := by omega
  have hP : ∀ k y, s.at_ + 1 < P.length → SG P (s.put k y) := fun k y h => ⟨by show 0 ≤ s.at_ + 1; omega, h, d0, d1, c1, n1⟩
  rcases hR.cls with q | q | q | q | q | q | q | q | q | q | q | q
  ·rw [show doS s v x = { s with ended := true } by simp [doS, hE, q]]; exact ⟨a0, a1, d0, d1, c1, n1⟩
  ·exact absurd q h2
  ·rw [show doS s v x = s.put x.a.toNat x.n by simp [doS, hE, q]]; exact hP _ _ (hgo (by omega) h2 (by omega))
  ·rw [show doS s v x = s.put x.a.toNat (s.regs x.b.toNat) by simp [doS, hE, q]]; exact hP _ _ (hgo (by omega) h2 (by omega))
  ·rw [show doS s v x = s.put x.a.toNat (s.cells.getD (s.regs x.b.toNat).toNat 0) by simp [doS, hE, q]]; exact hP _ _ (hgo (by omega) h2 (by omega))
  ·rw [show doS s v x = { s with cells := s.cells.set (s.regs x.b.toNat).toNat (s.regs x.a.toNat), at_ := s.at_ + 1 } by simp [doS, hE, q]]
   exact ⟨by show 0 ≤ s.at_ + 1; omega, hgo (by omega) h2 (by omega), d0, d1, by simpa using c1, n1⟩
  ·rw [show doS s v x = { s.put x.a.toNat (drawI v.seed v.process s.draws (s.regs x.b.toNat)) with draws := s.draws + 1 } by simp [doS, hE, q]]
   have hd : s.draws ≠ 1099511627776 := fun e => by
    have h3 : doE s v x = if s.regs x.b.toNat < 1 then 186 else if s.draws = 1099511627776 then 187 else 0 := by simp [doE, q]
    rw [hE, if_pos e] at h3
    split at h3 <;> omega
   exact ⟨by show 0 ≤ s.at_ + 1; omega, hgo (by omega) h2 (by omega), by show 0 ≤ s.draws + 1; omega, by show s.draws + 1 ≤ _; omega, c1, n1⟩
  ·rw [show doS s v x = { s with at_ := s.at_ + 1, sends := s.sends ++ [⟨x.n, s.regs x.a.toNat, s.regs x.b.toNat⟩] } by simp [doS, hE, q]]
   have hs : s.sends.length < 256 := by
    rcases Nat.lt_or_ge s.sends.length 256 with h' | h'
    ·exact h'
    ·exfalso
     have h3 : doE s v x = sendE s v x := by simp [doE, q]
     unfold sendE at h3
     rw [hE, if_pos h'] at h3
     split at h3
     ·omega
     ·split at h3
      ·omega
      ·split at h3 <;> omega
   exact ⟨by show 0 ≤ s.at_ + 1; omega, hgo (by omega) h2 (by omega), d0, d1, c1, by simp; omega⟩
  ·rw [show doS s v x = { s with at_ := x.n } by simp [doS, hE, q]]
   have := hta (.inl q); exact ⟨this.1, this.2, d0, d1, c1, n1⟩
  ·rw [show doS s v x = { s with at_ := if s.regs x.a.toNat = 0 then x.n else s.at_ + 1 } by simp [doS, hE, q]]
   have h3 := hta (.inr (.inl q))
   have h4 := hgo (by omega) h2 (by omega)
   refine ⟨?_, ?_, d0, d1, c1, n1⟩ <;> dsimp only <;> split <;> omega
  ·rw [show doS s v x = { s with at_ := if s.regs x.a.toNat < 0 then x.n else s.at_ + 1 } by simp [doS, hE, q]]
   have h3 := hta (.inr (.inr q))
   have h4 := hgo (by omega) h2 (by omega)
   refine ⟨?_, ?_, d0, d1, c1, n1⟩ <;> dsimp only <;> split <;> omega
  ·rw [show doS s v x = s.put x.a.toNat (yg_ (x.op - 32) (s.regs x.b.toNat) (s.regs x.c.toNat)) by
    unfold doS
    rw [hE]
    simp [show ¬ x.op = 1 by omega, show ¬ x.op = 3 by omega, show ¬ x.op = 4 by omega, show ¬ x.op = 5 by omega, show ¬ x.op = 6 by omega, show ¬ x.op = 7 by omega, show ¬ x.op = 8 by omega, show ¬ x.op = 9 by omega, show ¬ x.op = 10 by omega, show ¬ x.op = 11 by omega]]
   exact hP _ _ (hgo (by omega) h2 (by omega))
def stepX (P : List Ins) (s : Sta) (x : Ins) : Ins := if s.ended = true then x else insAt P s.at_
structure RR where
 tr : List Int
 at_ : Int
 bad : Int
 s : Sta
 x : Ins
def runA (P : List Ins) (v : Evi) : Nat → Sta → Ins → List Int → Int → RR
 | 0, s, x, tr, a => if s.ended = true then ⟨tr, a, 0, s, x⟩ else ⟨tr, s.at_, 190, s, x⟩
 | n + 1, s, x, tr, a => if s.ended = true then ⟨tr, a, 0, s, x⟩ else
  if stepE P v s = 0 then runA P v n (yv_ P v s) (stepX P s x) (tr ++ [s.at_]) s.at_ else ⟨tr ++ [s.at_], s.at_, stepE P v s, yv_ P v s, stepX P s x⟩
theorem runA_go {P : List Ins} {v : Evi} {n : Nat} {s : Sta} {x : Ins} {tr : List Int} {a : Int} (h : s.ended = false) (hn : 0 < n) (he : stepE P v s = 0) : runA P v n s x tr a = runA P v (n - 1) (yv_ P v s) (stepX P s x) (tr ++ [s.at_]) s.at_ := by
 obtain ⟨n, rfl⟩ : ∃ k, n = k + 1 := ⟨n - 1, by omega⟩
 simp [runA, h, he]
def begR (value time source : Int) : Nat → Int := fun q => if q = 2 then source else if q = 1 then time else if q = 0 then value else 0
def begS (value time source : Int) (cells : List Int) (draws : Int) : Sta := ⟨0, false, begR value time source, cells, draws, []⟩
theorem openE_zero {P : List Ins} {v : Evi} {s : Sta} (h : yx_ P v s = 0) : (checkI P).2 = 0 ∧ v.rightB = true ∧ s.rightB P.length = true := by
 unfold yx_ at h
 have q1 : (checkI P).2 = 0 := by
  by_cases q : (checkI P).2 = 0
  ·exact q
  ·rw [if_pos q] at h; cases h
 rw [if_neg (fun h => h q1)] at h
 have q2 : v.rightB = true := by
  cases q : v.rightB
  ·rw [if_pos q] at h; cases h
  ·rfl
 rw [if_neg (by rw [q2]; exact Bool.noConfusion)] at h
 refine ⟨q1, q2, ?_⟩
 cases q : s.rightB P.length
 ·rw [if_pos q] at h; cases h
 ·rfl
end Go.Proofs.Ytmljmabbopkpiaa.Vm
end
section
open Go.Proofs.Ytmljmabbopkpiaa.Vm Go.RowKit
attribute [local push_cast] prS sndsS i64S nav_ins nav_ins0 nav_ins1 nav_ins2 nav_ins3 nav_ins4 nav_snd nav_snd0 nav_snd1 nav_snd2 zy_ yi_ ym_ yh_ yd_ yc_ iOf
section
namespace Go.Proofs.Ytmljmabbopkpiaa.Vm
open Go.RowKit
section
variable {ρ : Nat → Nat} {h h' : HM} {g c k a b : Nat} {s : Sta} {v : Evi} {x : Ins} {ok : Prop}
theorem bun_mac (hp : macP h g = some (s, v, x, c, k, ok)) (hok : ok) (eg : h' g = h g) (ha : ρ a = c) (hb : ρ b = k) : Bun1 ρ (h' g) (mB s v x a b) := by
 obtain ⟨l, cf, sf, hg, hgl, _⟩ := mac_val hp hok
 show Less (h' g) (.own 152 ((macS s v x a b).ren ρ) true)
 rw [eg, hg, macS_ren, ha, hb]
 exact .val hgl (fun n k f e => by cases e) (fun n k f e => by cases e)
theorem bun_cel (hp : macP h g = some (s, v, x, c, k, ok)) (hok : ok) (ec : h' c = h c) : Bun1 ρ (h' c) (cB s) := by
 obtain ⟨l, cf, sf, hg, hgl, hc, hcl, _⟩ := mac_val hp hok
 show Less (h' c) (.own 2 (.arr s.cells.length 1 (i64S s.cells)) false)
 rw [ec, hc]
 exact .val (fun β => arrCl (hcl β)) (fun n k f e => by injection e with e1 e2 e3; subst e1 e2; exact ⟨_, rfl⟩) (fun n k f e => by injection e with e1 e2 e3; subst e1 e2; exact ⟨_, rfl⟩)
theorem sndsS_ren (ρ : Nat → Nat) (l : List Snd) : (fun q => (sndsS l q).ren ρ) = sndsS l := by
 funext q; unfold sndsS; simp only [sndS, SV.ren, renL]
theorem bun_snd (hp : macP h g = some (s, v, x, c, k, ok)) (hok : ok) (ek : h' k = h k) : Bun1 ρ (h' k) (sB s) := by
 obtain ⟨l, cf, sf, hg, hgl, hc, hcl, hk, hkl, _⟩ := mac_val hp hok
 show Less (h' k) (.own 64 (.arr s.sends.length 3 fun q => (sndsS s.sends q).ren ρ) false)
 rw [ek, hk, sndsS_ren]
 exact .val (fun β => arrCl (hkl β)) (fun n k f e => by injection e with e1 e2 e3; subst e1 e2; exact ⟨_, rfl⟩) (fun n k f e => by injection e with e1 e2 e3; subst e1 e2; exact ⟨_, rfl⟩)
def prR (P : List Ins) : HB := .ro (.arr P.length 5 (prS P))
def prO (P : List Ins) : HB := .own 28 (.arr P.length 5 (prS P)) false
theorem prS_ren (ρ : Nat → Nat) (l : List Ins) : (fun q => (prS l q).ren ρ) = prS l := by
 funext q; unfold prS; simp only [yl_, SV.ren, renL]
variable {i n : Nat} {P : List Ins}
end
def cSt : FuncId → Option yq_ := yz_ [(111, mS doF)]
theorem cSt_ok : ∀ f S, cSt f = some S → zj_ Try.prog f S := zp_ ⟨m_do, trivial⟩
end Go.Proofs.Ytmljmabbopkpiaa.Vm
end
section
namespace Go.Proofs.Ytmljmabbopkpiaa.Vm
open Go.RowKit
theorem prR_st {h : HM} {P : List Ins} : (prR P).stable h := fun q => prS_stable q
def sCheck : yq_ := fun args h m => match args with
 | [v1] => match y2_ h 5 (.tup []) v1 with
  | some (c1, n1, f1, r1) => some (c1 ∧ (∀ q, q < n1 → isIns (f1 q) = true) ∧ ((∀ x ∈ (ls zs_ n1 f1), x.ok)) ∧ (n1 ≤ 281474976710656), .tup [.int .i64 (checkI (ls zs_ n1 f1)).1, .int .i64 (checkI (ls zs_ n1 f1)).2], r1, [])
  | _ => none
 | _ => none
theorem sCheck_ok : zj_ Try.prog 55 sCheck := by
 refine ⟨zi_ (by kernel_rfl), fun args h m c v rd wr hs hm hc w0 M β h' w R hrd hwr hst => ?_⟩
 unfold sCheck at hs
 split at hs
 ·rename_i v1
  split at hs
  ·rename_i c1 n1 f1 r1 a1
   simp only [Option.some.injEq, Prod.mk.injEq] at hs
   obtain ⟨rfl, rfl, rfl, rfl⟩ := hs
   obtain ⟨k1, g1, y1, y2⟩ := hc
   obtain ⟨A1, p1, d1, e1, t1⟩ := zg_ R a1 k1 (fun i hi => hrd i hi) (by omega)
   rw [elems_ins g1] at t1
   simp only [denL, z2_, z0_, z6_, zq_, d1]
   exact (check_c A1 n1 p1 (by omega) (ls zs_ n1 f1) y1 w t1).mono fun e w' he => post_read R (by (repeat' (first | exact trivial | exact rfl | assumption | apply zc_.ite | apply And.intro | intro _ | (simp only [zc_, ze_, i64S, prS, yl_, sndsS, sndS]; done)))) rfl he.1 he.2
  ·cases hs
 ·cases hs
def cOp : FuncId → Option yq_ := yz_ [(55, sCheck), (109, sVRight), (110, sSRight), (86, sCopied)]
theorem cOp_ok : ∀ f S, cOp f = some S → zj_ Try.prog f S := zp_ ⟨sCheck_ok, sVRight_ok, sSRight_ok, sCopied_ok, trivial⟩
theorem less_mac0 {σ : Nat → Nat} {c k c' k' : Nat} (s : Sta) (v : Evi) (hc : σ c = c') (hk : σ k = k') :
  Less (.own 152 (.agg [.agg [.int .i64 s.at_, .bool s.ended, .arr 8 1 (fun q => .int .i64 (s.regs q)), .sl c' c' [] 1 0 s.cells.length none, .int .i64 s.draws, .sl k' k' [] 3 0 s.sends.length none], .agg [.int .u64 v.seed, .int .i64 v.process, .int .i64 v.ports, .int .i64 v.look, .int .i64 v.now], .agg [.nat .u8 0, .nat .u8 0, .nat .u8 0, .nat .u8 0, .nat .i64 0]]) true) ((mB s v Ins0 c k).ren σ) := by
 subst hc hk
 rw [mB_ren]
 exact .val (fun β => rfl) (fun n k f e => by cases e) (fun n k f e => by cases e)
theorem open_good (P : List Ins) (v : Evi) (s : Sta) (p1 p2 p3 : Nat) (hP : ∀ x ∈ P, x.ok) (hn : P.length ≤ 281474976710656) (hc : s.cells.length ≤ 1000000) (hs : s.sends.length ≤ 1000000) (hE : yx_ P v s = 0) : zo_ Try.prog 75 [.sl 1 2 [] 5 0 P.length (some p1), .agg [.int .u64 v.seed, .int .i64 v.process, .int .i64 v.ports, .int .i64 v.look, .int .i64 v.now], .agg [.int .i64 s.at_, .bool s.ended, .arr 8 1 (fun q => .int .i64 (s.regs q)), .sl 3 4 [] 1 0 s.cells.length (some p2), .int .i64 s.draws, .sl 5 6 [] 3 0 s.sends.length (some p3)]]
  [.gone, .gone, .ro (.arr P.length 5 (prS P)), .gone, .ro (.arr s.cells.length 1 (i64S s.cells)), .gone, .ro (.arr s.sends.length 3 (sndsS s.sends))]
  (.tup [.ptr 7 [], .int .i64 0]) [.gone, .gone, .gone, .gone, .gone, .gone, .gone, mB s v Ins0 8 9, cB s, sB s] := by
 unfold yx_ at hE
 have q1 : (checkI P).2 = 0 := by
  by_cases q : (checkI P).2 = 0
  ·exact q
  ·rw [if_pos q] at hE; cases hE
 rw [if_neg (fun h => h q1)] at hE
 have q2 : v.rightB = true := by
  cases q : v.rightB
  ·rw [if_pos q] at hE; cases hE
  ·rfl
 rw [if_neg (by rw [q2]; exact Bool.noConfusion)] at hE
 have q3 : s.rightB P.length = true := by
  cases q : s.rightB P.length
  ·rw [if_pos q] at hE; cases hE
  ·rfl
 refine zf_ (fn := Try.f75) 7 32 0 rfl rfl rfl rfl rfl u9_ rfl fun w0 M E hro => ?_
 repeat' (first | refine Ctl.h ?_ | ((with_reducible intro hif); first | (focus (cases hif; done)) | ((try simp only [JH] at hif); try (exfalso; omega))) | ((with_reducible first | apply J22 cOp_ok za_ | apply J23 fol cOp_ok za_ | apply J24); (·rfl); (· exact k89_); (try kernel_rfl); try exact k88_) | fail)
 apply At.endsPick [0, 1, 2, 3, 4, 5, 6, 11, 9, 10] za_ (fn := Try.f75) (rs := [.tmp 6, .tmp 7]) Anc.refl hro (lb_ rfl) rfl
 ·exact yo_
 ·exact k14_
 ·rfl
 ·rfl
 ·rfl
 ·(repeat' (first | exact trivial | exact .inl rfl | exact .inr (.same _) | exact .inr .loose | exact .inr (.arr (by assumption)) | apply And.intro | (refine .inr (less_mac0 _ _ ?_ ?_) <;> rfl)))
 ·rfl
 ·exact k86_
 ·exact k7_
 ·exact fun β => rfl
 ·exact k86_
theorem open_bad (P : List Ins) (v : Evi) (s : Sta) (p1 p2 p3 : Nat) (hP : ∀ x ∈ P, x.ok) (hn : P.length ≤ 281474976710656) (hc : s.cells.length ≤ 1000000) (hs : s.sends.length ≤ 1000000) (hE : yx_ P v s ≠ 0) : zo_ Try.prog 75 [.sl 1 2 [] 5 0 P.length (some p1), .agg [.int .u64 v.seed, .int .i64 v.process, .int .i64 v.ports, .int .i64 v.look, .int .i64 v.now], .agg [.int .i64 s.at_, .bool s.ended, .arr 8 1 (fun q => .int .i64 (s.regs q)), .sl 3 4 [] 1 0 s.cells.length (some p2), .int .i64 s.draws, .sl 5 6 [] 3 0 s.sends.length (some p3)]]
  [.gone, .gone, .ro (.arr P.length 5 (prS P)), .gone, .ro (.arr s.cells.length 1 (i64S s.cells)), .gone, .ro (.arr s.sends.length 3 (sndsS s.sends))]
  (.tup [.nilp, .int .i64 (yx_ P v s)]) [.gone] := by
 by_cases q1 : (checkI P).2 = 0
 ·cases q2 : v.rightB
  ·have e : yx_ P v s = 181 := by unfold yx_; rw [if_neg (fun h => h q1), if_pos q2]
   rw [e]
   refine zf_ (fn := Try.f75) 7 32 0 rfl rfl rfl rfl rfl u9_ rfl fun w0 M E hro => ?_
   repeat' (first | refine Ctl.h ?_ | ((with_reducible intro hif); first | (focus (cases hif; done)) | ((try simp only [JH] at hif); try (exfalso; omega))) | ((with_reducible first | apply J22 cOp_ok za_ | apply J23 fol cOp_ok za_ | apply J24); (·rfl); (· (simp only [push_cast, ↓JP, Nat.reduceAdd, Nat.reduceEqDiff, Nat.reduceLT, Nat.reduceMul, Nat.reduceLeDiff, reduceCtorEq, reduceIte, ↓JK, JM, cOp, sCheck, sVRight, sSRight, sCopied, JE, inR, inN, q1, q2]; rfl)); (try kernel_rfl); try exact k88_) | fail)
   apply At.endsRet za_ (fn := Try.f75) (rs := [.tmp 6, .tmp 7]) Anc.refl hro (lb_ rfl) rfl
   ·exact yo_
   ·exact k4_
   ·exact k5_
   ·rfl
   ·exact k86_
   ·exact k7_
   ·exact fun β => rfl
   ·exact k86_
  ·cases q3 : s.rightB P.length
   ·have e : yx_ P v s = 182 := by unfold yx_; rw [if_neg (fun h => h q1), if_neg (by rw [q2]; exact Bool.noConfusion), if_pos q3]
    rw [e]
    refine zf_ (fn := Try.f75) 7 32 0 rfl rfl rfl rfl rfl u9_ rfl fun w0 M E hro => ?_
    repeat' (first | refine Ctl.h ?_ | ((with_reducible intro hif); first | (focus (cases hif; done)) | ((try simp only [JH] at hif); try (exfalso; omega))) | ((with_reducible first | apply J22 cOp_ok za_ | apply J23 fol cOp_ok za_ | apply J24); (·rfl); (· exact k89_); (try kernel_rfl); try exact k88_) | fail)
    apply At.endsRet za_ (fn := Try.f75) (rs := [.tmp 6, .tmp 7]) Anc.refl hro (lb_ rfl) rfl
    ·exact yo_
    ·exact k4_
    ·exact k5_
    ·rfl
    ·exact k86_
    ·exact k7_
    ·exact fun β => rfl
    ·exact k86_
   ·exact absurd (by unfold yx_; rw [if_neg (fun h => h q1), if_neg (by rw [q2]; exact Bool.noConfusion), if_neg (by rw [q3]; exact Bool.noConfusion)]) hE
 ·have e : yx_ P v s = 180 := by unfold yx_; rw [if_pos q1]
  rw [e]
  refine zf_ (fn := Try.f75) 7 32 0 rfl rfl rfl rfl rfl u9_ rfl fun w0 M E hro => ?_
  repeat' (first | refine Ctl.h ?_ | ((with_reducible intro hif); first | (focus (cases hif; done)) | ((try simp only [JH] at hif); try (exfalso; omega))) | ((with_reducible first | apply J22 cOp_ok za_ | apply J23 fol cOp_ok za_ | apply J24); (·rfl); (· (simp only [push_cast, ↓JP, Nat.reduceAdd, Nat.reduceEqDiff, Nat.reduceLT, Nat.reduceMul, Nat.reduceLeDiff, reduceCtorEq, reduceIte, ↓JK, JM, cOp, sCheck, sVRight, sSRight, sCopied, JE, inR, inN, q1]; rfl)); (try kernel_rfl); try exact k88_) | fail)
  apply At.endsRet za_ (fn := Try.f75) (rs := [.tmp 6, .tmp 7]) Anc.refl hro (lb_ rfl) rfl
  ·exact yo_
  ·exact k4_
  ·exact k5_
  ·rfl
  ·exact k86_
  ·exact k7_
  ·exact fun β => rfl
  ·exact k86_
def sOpenG : yq_ := fun args h m => match args with
 | [v1, .agg [v2, v3, v4, v5, v6], .agg [v7, .bool v8, .arr 8 1 v9, v10, v11, v12]] => match y2_ h 5 (.tup []) v1, y2_ h 1 (.tup []) v10, y2_ h 3 (.tup []) v12 with
  | some (c1, n1, f1, r1), some (c10, n10, f10, r10), some (c12, n12, f12, r12) => bif isI .u64 v2 && isI .i64 v3 && isI .i64 v4 && isI .i64 v5 && isI .i64 v6 && isI .i64 v7 && isI .i64 v11 then some (c1 ∧ c10 ∧ c12 ∧ (∀ q, q < n1 → isIns (f1 q) = true) ∧ (∀ q, q < n10 → isI .i64 (f10 q) = true) ∧ (∀ q, q < n12 → isSnd (f12 q) = true) ∧ (∀ q, q < 8 → isI .i64 (v9 q) = true) ∧ ((∀ x ∈ (ls zs_ n1 f1), x.ok)) ∧ (n1 ≤ 281474976710656) ∧ (n10 ≤ 1000000) ∧ (n12 ≤ 1000000) ∧ (yx_ (ls zs_ n1 f1) ⟨(iOf v2), (iOf v3), (iOf v4), (iOf v5), (iOf v6)⟩ ⟨(iOf v7), v8, (fun q => iOf (v9 q)), (ls iOf n10 f10), (iOf v11), (ls zm_ n12 f12)⟩ = 0), .tup [.ptr m [], .int .i64 0], r1 ++ r10 ++ r12, [(m, mB ⟨(iOf v7), v8, (fun q => iOf (v9 q)), (ls iOf n10 f10), (iOf v11), (ls zm_ n12 f12)⟩ ⟨(iOf v2), (iOf v3), (iOf v4), (iOf v5), (iOf v6)⟩ Ins0 (m + 1) (m + 2)), (m + 1, cB ⟨(iOf v7), v8, (fun q => iOf (v9 q)), (ls iOf n10 f10), (iOf v11), (ls zm_ n12 f12)⟩), (m + 2, sB ⟨(iOf v7), v8, (fun q => iOf (v9 q)), (ls iOf n10 f10), (iOf v11), (ls zm_ n12 f12)⟩)]) else none
  | _, _, _ => none
 | _ => none
theorem sOpenG_ok : zj_ Try.prog 75 sOpenG := by
 refine ⟨zi_ (by kernel_rfl), fun args h m c v rd wr hs hm hc w0 M β h' w R hrd hwr hst => ?_⟩
 unfold sOpenG at hs
 split at hs
 ·rename_i v1 v2 v3 v4 v5 v6 v7 v8 v9 v10 v11 v12
  split at hs
  ·rename_i c1 n1 f1 r1 c10 n10 f10 r10 c12 n12 f12 r12 a1 a10 a12
   obtain ⟨hb, hs⟩ := zl_ hs
   simp only [Option.some.injEq, Prod.mk.injEq] at hs
   obtain ⟨rfl, rfl, rfl, rfl⟩ := hs
   simp only [Bool.and_eq_true] at hb
   obtain ⟨⟨⟨⟨⟨⟨b2, b3⟩, b4⟩, b5⟩, b6⟩, b7⟩, b11⟩ := hb
   obtain ⟨k1, k10, k12, g1, g10, g12, g9, y1, y2, y3, y4, y5⟩ := hc
   obtain ⟨A1, p1, d1, e1, t1⟩ := zg_ R a1 k1 (fun i hi => hrd i (List.mem_append_left _ (List.mem_append_left _ hi))) (by omega)
   obtain ⟨A10, p10, d10, e10, t10⟩ := zg_ R a10 k10 (fun i hi => hrd i (List.mem_append_left _ (List.mem_append_right _ hi))) (by omega)
   obtain ⟨A12, p12, d12, e12, t12⟩ := zg_ R a12 k12 (fun i hi => hrd i (List.mem_append_right _ hi)) (by omega)
   refine yf_ (views := [⟨5, (ls zs_ n1 f1).length, prS (ls zs_ n1 f1), A1, p1⟩, ⟨1, (ls iOf n10 f10).length, i64S (ls iOf n10 f10), A10, p10⟩, ⟨3, (ls zm_ n12 f12).length, sndsS (ls zm_ n12 f12), A12, p12⟩]) (open_good (ls zs_ n1 f1) ⟨(iOf v2), (iOf v3), (iOf v4), (iOf v5), (iOf v6)⟩ ⟨(iOf v7), v8, (fun q => iOf (v9 q)), (ls iOf n10 f10), (iOf v11), (ls zm_ n12 f12)⟩ p1 p10 p12 y1 (by rw [zb_]; exact y2) (by rw [zb_]; exact y3) (by rw [zb_]; exact y4) y5) ?_ R hm hwr ?_ ?_ ?_
   ·intro x hx
    simp only [List.mem_cons, List.not_mem_nil, or_false] at hx
    rcases hx with rfl | rfl | rfl
    ·exact viewIns t1 e1 g1
    ·exact z8_ t10 e10 g10
    ·exact yy_ t12 e12 g12
   ·intro β1 hv
    simp only [Vd, zb_, and_true] at hv
    obtain ⟨z1, z10, z12⟩ := hv
    simp only [denL, z2_, z0_, z6_, zq_, zb_, z1, z10, z12, d1, d10, d12, zd_ b2, zd_ b3, zd_ b4, zd_ b5, zd_ b6, zd_ b7, zd_ b11, ← r8Den (β := β) (β1 := β1) g9]
   ·exact k86_
   ·exact k86_
  ·cases hs
 ·cases hs
def sOpenB : yq_ := fun args h m => match args with
 | [v1, .agg [v2, v3, v4, v5, v6], .agg [v7, .bool v8, .arr 8 1 v9, v10, v11, v12]] => match y2_ h 5 (.tup []) v1, y2_ h 1 (.tup []) v10, y2_ h 3 (.tup []) v12 with
  | some (c1, n1, f1, r1), some (c10, n10, f10, r10), some (c12, n12, f12, r12) => bif isI .u64 v2 && isI .i64 v3 && isI .i64 v4 && isI .i64 v5 && isI .i64 v6 && isI .i64 v7 && isI .i64 v11 then some (c1 ∧ c10 ∧ c12 ∧ (∀ q, q < n1 → isIns (f1 q) = true) ∧ (∀ q, q < n10 → isI .i64 (f10 q) = true) ∧ (∀ q, q < n12 → isSnd (f12 q) = true) ∧ (∀ q, q < 8 → isI .i64 (v9 q) = true) ∧ ((∀ x ∈ (ls zs_ n1 f1), x.ok)) ∧ (n1 ≤ 281474976710656) ∧ (n10 ≤ 1000000) ∧ (n12 ≤ 1000000) ∧ (yx_ (ls zs_ n1 f1) ⟨(iOf v2), (iOf v3), (iOf v4), (iOf v5), (iOf v6)⟩ ⟨(iOf v7), v8, (fun q => iOf (v9 q)), (ls iOf n10 f10), (iOf v11), (ls zm_ n12 f12)⟩ ≠ 0), .tup [.nilp, .int .i64 (yx_ (ls zs_ n1 f1) ⟨(iOf v2), (iOf v3), (iOf v4), (iOf v5), (iOf v6)⟩ ⟨(iOf v7), v8, (fun q => iOf (v9 q)), (ls iOf n10 f10), (iOf v11), (ls zm_ n12 f12)⟩)], r1 ++ r10 ++ r12, []) else none
  | _, _, _ => none
 | _ => none
theorem sOpenB_ok : zj_ Try.prog 75 sOpenB := by
 refine ⟨zi_ (by kernel_rfl), fun args h m c v rd wr hs hm hc w0 M β h' w R hrd hwr hst => ?_⟩
 unfold sOpenB at hs
 split at hs
 ·rename_i v1 v2 v3 v4 v5 v6 v7 v8 v9 v10 v11 v12
  split at hs
  ·rename_i c1 n1 f1 r1 c10 n10 f10 r10 c12 n12 f12 r12 a1 a10 a12
   obtain ⟨hb, hs⟩ := zl_ hs
   simp only [Option.some.injEq, Prod.mk.injEq] at hs
   obtain ⟨rfl, rfl, rfl, rfl⟩ := hs
   simp only [Bool.and_eq_true] at hb
   obtain ⟨⟨⟨⟨⟨⟨b2, b3⟩, b4⟩, b5⟩, b6⟩, b7⟩, b11⟩ := hb
   obtain ⟨k1, k10, k12, g1, g10, g12, g9, y1, y2, y3, y4, y5⟩ := hc
   obtain ⟨A1, p1, d1, e1, t1⟩ := zg_ R a1 k1 (fun i hi => hrd i (List.mem_append_left _ (List.mem_append_left _ hi))) (by omega)
   obtain ⟨A10, p10, d10, e10, t10⟩ := zg_ R a10 k10 (fun i hi => hrd i (List.mem_append_left _ (List.mem_append_right _ hi))) (by omega)
   obtain ⟨A12, p12, d12, e12, t12⟩ := zg_ R a12 k12 (fun i hi => hrd i (List.mem_append_right _ hi)) (by omega)
   refine yf_ (views := [⟨5, (ls zs_ n1 f1).length, prS (ls zs_ n1 f1), A1, p1⟩, ⟨1, (ls iOf n10 f10).length, i64S (ls iOf n10 f10), A10, p10⟩, ⟨3, (ls zm_ n12 f12).length, sndsS (ls zm_ n12 f12), A12, p12⟩]) (open_bad (ls zs_ n1 f1) ⟨(iOf v2), (iOf v3), (iOf v4), (iOf v5), (iOf v6)⟩ ⟨(iOf v7), v8, (fun q => iOf (v9 q)), (ls iOf n10 f10), (iOf v11), (ls zm_ n12 f12)⟩ p1 p10 p12 y1 (by rw [zb_]; exact y2) (by rw [zb_]; exact y3) (by rw [zb_]; exact y4) y5) ?_ R hm hwr ?_ ?_ ?_
   ·intro x hx
    simp only [List.mem_cons, List.not_mem_nil, or_false] at hx
    rcases hx with rfl | rfl | rfl
    ·exact viewIns t1 e1 g1
    ·exact z8_ t10 e10 g10
    ·exact yy_ t12 e12 g12
   ·intro β1 hv
    simp only [Vd, zb_, and_true] at hv
    obtain ⟨z1, z10, z12⟩ := hv
    simp only [denL, z2_, z0_, z6_, zq_, zb_, z1, z10, z12, d1, d10, d12, zd_ b2, zd_ b3, zd_ b4, zd_ b5, zd_ b6, zd_ b7, zd_ b11, ← r8Den (β := β) (β1 := β1) g9]
   ·exact k86_
   ·exact k86_
  ·cases hs
 ·cases hs
theorem strDen {β : Env} {s : ByteArray} : (SV.str s).den β = .string s := rfl
def cntB (s : ByteArray) (c : Int) : Nat → Nat
 | 0 => 0
 | j + 1 => cntB s c j + if bat s j = c then 1 else 0
theorem cntB_le (s : ByteArray) (c : Int) : ∀ j, cntB s c j ≤ j
 | 0 => Nat.le_refl 0
 | j + 1 => by
  have := cntB_le s c j
  unfold cntB
  split <;> omega
theorem cnt_lit (s : ByteArray) (c : Int) (hs : s.size ≤ 1000000) : zo_ Try.prog 173 [.str s, .int .u8 c] [.gone] (.nat .i64 (cntB s c s.size)) [.gone] := by
 refine zf_ (fn := Try.f173) 1 21 0 rfl rfl rfl rfl rfl u10_ rfl fun w0 M E hro => ?_
 repeat' (first | refine Ctl.h ?_ | ((with_reducible intro hif); first | (focus (cases hif; done)) | ((try simp only [JH] at hif); try (exfalso; omega))) | ((with_reducible first | apply J22 zt_ za_ | apply J23 fol zt_ za_ | apply J24); (·rfl); (· exact k20_); (try kernel_rfl); try exact y6_) | fail)
 refine WF.loopAt (fun (j : Nat) => j ≤ s.size) (fun (j : Nat) => [(0, .str s), (1, .int .u8 c), (5, .nat .i64 (cntB s c j)), (6, .nat .i64 j)]) (fun (j : Nat) => [.gone]) (fun (j : Nat) => s.size - j) 0 (Nat.zero_le _) ?_ ?_ rfl ?_ ?_ rfl ?_
 ·exact k8_
 ·exact k5_
 ·exact k6_
 ·exact k6_
 intro j hj
 have hcj := cntB_le s c j
 by_cases hjl : j < s.size
 ·by_cases hc : bat s j = c
  ·have e : cntB s c (j + 1) = cntB s c j + 1 := by rw [cntB, if_pos hc]
   repeat' (first | refine Ctl.h ?_ | ((with_reducible intro hif); first | (focus (cases hif; done)) | ((try simp only [JH] at hif); try (exfalso; omega))) | ((with_reducible first | apply J22 zt_ za_ | apply J23 fol zt_ za_ | apply J24); (·rfl); (· exact k90_); (try kernel_rfl); try exact k26_) | fail)
   refine At.next (j + 1) ?_ ?_ ?_ rfl ?_ ?_ rfl
   ·exact ⟨hjl, by omega⟩
   ·((repeat' (first | exact trivial | apply And.intro)) <;> (first | rfl | (rw [e]; rfl)))
   ·exact k5_
   ·exact k6_
   ·exact k6_
  ·have e : cntB s c (j + 1) = cntB s c j := by rw [cntB, if_neg hc]; rfl
   repeat' (first | refine Ctl.h ?_ | ((with_reducible intro hif); first | (focus (cases hif; done)) | ((try simp only [JH] at hif); try (exfalso; omega))) | ((with_reducible first | apply J22 zt_ za_ | apply J23 fol zt_ za_ | apply J24); (·rfl); (· exact k90_); (try kernel_rfl); try exact k26_) | fail)
   refine At.next (j + 1) ?_ ?_ ?_ rfl ?_ ?_ rfl
   ·exact ⟨hjl, by omega⟩
   ·((repeat' (first | exact trivial | apply And.intro)) <;> (first | rfl | (rw [e]; rfl)))
   ·exact k5_
   ·exact k6_
   ·exact k6_
 ·obtain rfl : j = s.size := by omega
  repeat' (first | refine Ctl.h ?_ | ((with_reducible intro hif); first | (focus (cases hif; done)) | ((try simp only [JH] at hif); try (exfalso; omega))) | ((with_reducible first | apply J22 zt_ za_ | apply J23 fol zt_ za_ | apply J24); (·rfl); (· exact k23_); (try kernel_rfl); try exact y6_) | fail)
  apply At.endsRet za_ (fn := Try.f173) (rs := [.tmp 4]) Anc.refl hro (lb_ rfl) rfl
  ·exact k3_
  ·exact k4_
  ·exact k5_
  ·rfl
  ·exact k6_
  ·exact k7_
  ·exact fun β => rfl
  ·exact k6_
def sRCnt : yq_ := fun args h m => match args with
 | [.str v1, v2] => bif isI .u8 v2 then some ((v1.size ≤ 1000000), .nat .i64 (cntB v1 (iOf v2) v1.size), [], []) else none
 | _ => none
theorem sRCnt_ok : zj_ Try.prog 173 sRCnt := by
 refine ⟨zi_ (by kernel_rfl), fun args h m c v rd wr hs hm hc w0 M β h' w R hrd hwr hst => ?_⟩
 unfold sRCnt at hs
 split at hs
 ·rename_i v1 v2
  obtain ⟨hb, hs⟩ := zl_ hs
  simp only [Option.some.injEq, Prod.mk.injEq] at hs
  obtain ⟨rfl, rfl, rfl, rfl⟩ := hs
  have b2 := hb
  have y1 := hc
  refine yf_ (views := []) (cnt_lit v1 (iOf v2) y1) ?_ R hm hwr ?_ ?_ ?_
  ·intro x hx; cases hx
  ·intro β1 hv
   simp only [denL, z2_, z0_, z6_, zq_, zb_, strDen, zd_ b2]
  ·exact k6_
  ·exact k6_
 ·cases hs
theorem formC_cases (op : Int) : (32 < op ∧ op ≤ 49 ∧ formC op = 1) ∨ ((op = 1 ∨ op = 2) ∧ formC op = 2) ∨ (op = 3 ∧ formC op = 3) ∨ (4 ≤ op ∧ op ≤ 7 ∧ formC op = 4) ∨ (op = 8 ∧ formC op = 5) ∨ (op = 9 ∧ formC op = 6) ∨ ((op = 10 ∨ op = 11) ∧ formC op = 7) ∨ (¬ (32 < op ∧ op ≤ 49) ∧ ¬ (1 ≤ op ∧ op ≤ 11) ∧ formC op = 0) := by
 unfold formC
 repeat' split
 all_goals omega
theorem rform_lit (op : Int) (h0 : 0 ≤ op ∧ op ≤ 255) : zo_ Try.prog 172 [.int .u8 op] [.gone] (.tup [.str (yu_ (formC op)), .bool (decide (formC op ≠ 0))]) [.gone] := by
 rcases formC_cases op with ⟨h1, h2, hk⟩ | ⟨h1, hk⟩ | ⟨h1, hk⟩ | ⟨h1, h2, hk⟩ | ⟨h1, hk⟩ | ⟨h1, hk⟩ | ⟨h1, hk⟩ | ⟨h1, h2, hk⟩
 all_goals
  rw [hk]
  refine zf_ (fn := Try.f172) 1 28 0 rfl rfl rfl rfl rfl u10_ rfl fun w0 M E hro => ?_
  repeat' (first | refine Ctl.h ?_ | ((with_reducible intro hif); first | (focus (cases hif; done)) | ((try simp only [JH] at hif); try (exfalso; omega))) | ((with_reducible first | apply J22 zt_ za_ | apply J23 fol zt_ za_ | apply J24); (·rfl); (· exact k20_); (try kernel_rfl); try exact y6_) | fail)
 all_goals
  apply At.endsRet za_ (fn := Try.f172) (rs := [.tmp 2, .tmp 3]) Anc.refl hro (lb_ rfl) rfl
  ·exact k3_
  ·exact k4_
  ·exact k5_
  ·rfl
  ·exact k6_
  ·exact k7_
  ·(intro β; first | rfl | (exfalso; simp only [Bool.and_eq_false_iff, decide_eq_false_iff_not] at hif; omega))
  ·exact k6_
def sRForm : yq_ := fun args h m => match args with
 | [v1] => bif isI .u8 v1 then some ((0 ≤ (iOf v1) ∧ (iOf v1) ≤ 255), .tup [.str (yu_ (formC (iOf v1))), .bool (decide (formC (iOf v1) ≠ 0))], [], []) else none
 | _ => none
theorem sRForm_ok : zj_ Try.prog 172 sRForm := by
 refine ⟨zi_ (by kernel_rfl), fun args h m c v rd wr hs hm hc w0 M β h' w R hrd hwr hst => ?_⟩
 unfold sRForm at hs
 split at hs
 ·rename_i v1
  obtain ⟨hb, hs⟩ := zl_ hs
  simp only [Option.some.injEq, Prod.mk.injEq] at hs
  obtain ⟨rfl, rfl, rfl, rfl⟩ := hs
  have b1 := hb
  have y1 := hc
  refine yf_ (views := []) (rform_lit (iOf v1) y1) ?_ R hm hwr ?_ ?_ ?_
  ·intro x hx; cases hx
  ·intro β1 hv
   simp only [denL, z2_, z0_, z6_, zq_, zb_, zd_ b1]
  ·exact k6_
  ·exact k6_
 ·cases hs
theorem cf1r : cntB (yu_ 1) 114 (yu_ 1).size = 3 := by decide
theorem cf1n : cntB (yu_ 1) 110 (yu_ 1).size = 0 := by decide
theorem cf1p : cntB (yu_ 1) 112 (yu_ 1).size = 0 := by decide
theorem cf1t : cntB (yu_ 1) 116 (yu_ 1).size = 0 := by decide
theorem cf2r : cntB (yu_ 2) 114 (yu_ 2).size = 0 := by decide
theorem cf2n : cntB (yu_ 2) 110 (yu_ 2).size = 0 := by decide
theorem cf2p : cntB (yu_ 2) 112 (yu_ 2).size = 0 := by decide
theorem cf2t : cntB (yu_ 2) 116 (yu_ 2).size = 0 := by decide
theorem cf3r : cntB (yu_ 3) 114 (yu_ 3).size = 1 := by decide
theorem cf3n : cntB (yu_ 3) 110 (yu_ 3).size = 1 := by decide
theorem cf4r : cntB (yu_ 4) 114 (yu_ 4).size = 2 := by decide
theorem cf4n : cntB (yu_ 4) 110 (yu_ 4).size = 0 := by decide
theorem cf4p : cntB (yu_ 4) 112 (yu_ 4).size = 0 := by decide
theorem cf4t : cntB (yu_ 4) 116 (yu_ 4).size = 0 := by decide
theorem cf5r : cntB (yu_ 5) 114 (yu_ 5).size = 2 := by decide
theorem cf5n : cntB (yu_ 5) 110 (yu_ 5).size = 0 := by decide
theorem cf5p : cntB (yu_ 5) 112 (yu_ 5).size = 1 := by decide
theorem cf5t : cntB (yu_ 5) 116 (yu_ 5).size = 0 := by decide
theorem cf6r : cntB (yu_ 6) 114 (yu_ 6).size = 0 := by decide
theorem cf6n : cntB (yu_ 6) 110 (yu_ 6).size = 0 := by decide
theorem cf6p : cntB (yu_ 6) 112 (yu_ 6).size = 0 := by decide
theorem cf6t : cntB (yu_ 6) 116 (yu_ 6).size = 1 := by decide
theorem cf7r : cntB (yu_ 7) 114 (yu_ 7).size = 1 := by decide
theorem cf7n : cntB (yu_ 7) 110 (yu_ 7).size = 0 := by decide
theorem cf7p : cntB (yu_ 7) 112 (yu_ 7).size = 0 := by decide
theorem cf7t : cntB (yu_ 7) 116 (yu_ 7).size = 1 := by decide
theorem formS_size (k : Nat) : (yu_ k).size ≤ 1000000 := by
 unfold yu_; split <;> decide
def cROne : FuncId → Option yq_ := yz_ [(172, sRForm), (173, sRCnt)]
theorem cROne_ok : ∀ f S, cROne f = some S → zj_ Try.prog f S := zp_ ⟨sRForm_ok, sRCnt_ok, trivial⟩
theorem rone_lit (i : Ins) (hi : i.ok) : zo_ Try.prog 144 [yl_ i] [.gone] (.int .i64 (oneE i)) [.gone] := by
 obtain ⟨op, a, b, c, n⟩ := i
 have o0 := hi.op0
 have o1 := hi.op1
 have a0 := hi.a0
 have a1 := hi.a1
 have b0 := hi.b0
 have b1 := hi.b1
 have c0 := hi.c0
 have c1 := hi.c1
 have hfs := formS_size
 dsimp only at o0 o1 a0 a1 b0 b1 c0 c1
 show zo_ Try.prog 144 [.agg [.int .u8 op, .int .u8 a, .int .u8 b, .int .u8 c, .int .i64 n]] [.gone] (.int .i64 (if formC op = 0 then 140 else oneK (formC op) a b c n)) [.gone]
 rcases formC_cases op with ⟨h1, h2, hk⟩ | ⟨h1, hk⟩ | ⟨h1, hk⟩ | ⟨h1, h2, hk⟩ | ⟨h1, hk⟩ | ⟨h1, hk⟩ | ⟨h1, hk⟩ | ⟨h1, h2, hk⟩
 all_goals
  rw [hk]
  refine zf_ (fn := Try.f144) 1 75 0 rfl rfl rfl rfl rfl u10_ rfl fun w0 M E hro => ?_
  repeat' (first | refine Ctl.h ?_ | ((with_reducible intro hif); first | (focus (cases hif; done)) | ((try simp only [JH] at hif); try (exfalso; omega))) | ((with_reducible first | apply J22 cROne_ok za_ | apply J23 fol cROne_ok za_ | apply J24); (·rfl); (· (simp only [push_cast, ↓JP, Nat.reduceAdd, Nat.reduceEqDiff, Nat.reduceLT, Nat.reduceMul, Nat.reduceLeDiff, reduceCtorEq, reduceIte, ↓JK, cROne, sRForm, sRCnt, hk, cf1r, cf1n, cf1p, cf1t, cf2r, cf2n, cf2p, cf2t, cf3r, cf3n, cf4r, cf4n, cf4p, cf4t, cf5r, cf5n, cf5p, cf5t, cf6r, cf6n, cf6p, cf6t, cf7r, cf7n, cf7p, cf7t, yd_, yc_, iOf]; rfl)); (try kernel_rfl); (try (focus (first | exact True.intro | ((try simp only [JS, implies_true, forall_const, z7_, z5_, kndOf]); (first | first | omega | exact hfs _ | (repeat' (first | assumption | exact True.intro | omega | apply And.intro))); done))))) | fail)
 all_goals
  apply At.endsRet za_ (fn := Try.f144) (rs := [.tmp 2]) Anc.refl hro (lb_ rfl) rfl
  ·exact yo_
  ·exact k4_
  ·exact k5_
  ·rfl
  ·exact k6_
  ·exact k7_
  ·(intro β; first | rfl | (refine congrArg (fun x => Value.int .i64 x) (Eq.symm ?_); first | exact oneK_pos (by simp only [y5_]; simp at *; omega) | exact yr_ (by simp only [y5_]; simp at *; omega)))
  ·exact k6_
def sROne : yq_ := fun args h m => match args with
 | [v1] => bif isIns v1 then some (((zs_ v1).ok), .int .i64 (oneE (zs_ v1)), [], []) else none
 | _ => none
theorem sROne_ok : zj_ Try.prog 144 sROne := by
 refine ⟨zi_ (by kernel_rfl), fun args h m c v rd wr hs hm hc w0 M β h' w R hrd hwr hst => ?_⟩
 unfold sROne at hs
 split at hs
 ·rename_i v1
  obtain ⟨hb, hs⟩ := zl_ hs
  simp only [Option.some.injEq, Prod.mk.injEq] at hs
  obtain ⟨rfl, rfl, rfl, rfl⟩ := hs
  have b1 := hb
  have y1 := hc
  refine yf_ (views := []) (rone_lit (zs_ v1) y1) ?_ R hm hwr ?_ ?_ ?_
  ·intro x hx; cases hx
  ·intro β1 hv
   simp only [denL, z2_, z0_, z6_, zq_, zb_, den_insOf b1, den_insS]
  ·exact k6_
  ·exact k6_
 ·cases hs
theorem evm_in1 (i : Ins) (a : Bool → SV → Option (Prop × SV)) (b : SV → Option (Prop × SV)) (c : Unit → Option (Prop × SV)) : ev.match_1 (fun _ => Option (Prop × SV)) (some (yl_ i)) a b c = b (yl_ i) := rfl
def cRG : FuncId → Option yq_ := yz_ [(144, sROne)]
theorem cRG_ok : ∀ f S, cRG f = some S → zj_ Try.prog f S := zp_ ⟨sROne_ok, trivial⟩
theorem rgoes_lit (i : Ins) (hi : i.ok) : zo_ Try.prog 146 [yl_ i] [.gone] (.bool (goesB i)) [.gone] := by
 by_cases he : oneE i = 0 <;> by_cases h1 : i.op = 1 <;> by_cases h2 : i.op = 2 <;> by_cases h9 : i.op = 9
 all_goals
  refine zf_ (fn := Try.f146) 1 21 0 rfl rfl rfl rfl rfl u10_ rfl fun w0 M E hro => ?_
  repeat' (first | refine Ctl.h ?_ | ((with_reducible intro hif); first | (focus (cases hif; done)) | ((try simp only [JH] at hif); try (exfalso; omega))) | ((with_reducible first | apply J22 cRG_ok za_ | apply J23 fol cRG_ok za_ | apply J24); (·rfl); (· (simp only [push_cast, ↓JP, Nat.reduceAdd, Nat.reduceEqDiff, Nat.reduceLT, Nat.reduceMul, Nat.reduceLeDiff, reduceCtorEq, reduceIte, ↓JK, evm_in1, cRG, sROne, he, h1, h2, h9]; rfl)); (try kernel_rfl); (try (focus (first | exact True.intro | ((try simp only [JS, implies_true, forall_const, z7_, z5_, kndOf]); (first | assumption | (repeat' (first | assumption | exact True.intro | omega | apply And.intro))); done))))) | fail)
 all_goals
  apply At.endsRet za_ (fn := Try.f146) (rs := [.tmp 2]) Anc.refl hro (lb_ rfl) rfl
  ·exact yo_
  ·exact k4_
  ·exact k5_
  ·rfl
  ·exact k6_
  ·exact k7_
  ·(intro β; simp [resS, SV.den, goesB, he, h1, h2, h9])
  ·exact k6_
def sRGoes : yq_ := fun args h m => match args with
 | [v1] => bif isIns v1 then some (((zs_ v1).ok), .bool (goesB (zs_ v1)), [], []) else none
 | _ => none
theorem sRGoes_ok : zj_ Try.prog 146 sRGoes := by
 refine ⟨zi_ (by kernel_rfl), fun args h m c v rd wr hs hm hc w0 M β h' w R hrd hwr hst => ?_⟩
 unfold sRGoes at hs
 split at hs
 ·rename_i v1
  obtain ⟨hb, hs⟩ := zl_ hs
  simp only [Option.some.injEq, Prod.mk.injEq] at hs
  obtain ⟨rfl, rfl, rfl, rfl⟩ := hs
  have b1 := hb
  have y1 := hc
  refine yf_ (views := []) (rgoes_lit (zs_ v1) y1) ?_ R hm hwr ?_ ?_ ?_
  ·intro x hx; cases hx
  ·intro β1 hv
   simp only [denL, z2_, z0_, z6_, zq_, zb_, den_insOf b1, den_insS]
  ·exact k6_
  ·exact k6_
 ·cases hs
theorem targB_of {i : Ins} (he : oneE i = 0) : targB i = decide (9 ≤ i.op ∧ i.op ≤ 11) := by
 unfold targB
 rw [he, Bool.eq_iff_iff]
 simp
 omega
theorem targB_no {i : Ins} (he : oneE i ≠ 0) : targB i = false := by
 unfold targB
 simp [he]
theorem rtarg_lit (i : Ins) (hi : i.ok) : zo_ Try.prog 145 [yl_ i] [.gone] (.tup [.int .i64 (targV i), .bool (targB i)]) [.gone] := by
 by_cases he : oneE i = 0 <;> by_cases h1 : i.op < 9 <;> by_cases h2 : 11 < i.op
 all_goals
  refine zf_ (fn := Try.f145) 1 19 0 rfl rfl rfl rfl rfl u10_ rfl fun w0 M E hro => ?_
  repeat' (first | refine Ctl.h ?_ | ((with_reducible intro hif); first | (focus (cases hif; done)) | ((try simp only [JH] at hif); try (exfalso; omega))) | ((with_reducible first | apply J22 cRG_ok za_ | apply J23 fol cRG_ok za_ | apply J24); (·rfl); (· (simp only [push_cast, ↓JP, Nat.reduceAdd, Nat.reduceEqDiff, Nat.reduceLT, Nat.reduceMul, Nat.reduceLeDiff, reduceCtorEq, reduceIte, ↓JK, evm_in1, cRG, sROne, he, h1, h2, inR, inN]; rfl)); (try kernel_rfl); (try (focus (first | exact True.intro | ((try simp only [JS, implies_true, forall_const, z7_, z5_, kndOf, inR, inN]); (first | assumption | (repeat' (first | assumption | exact True.intro | omega | apply And.intro))); done))))) | fail)
 all_goals
  apply At.endsRet za_ (fn := Try.f145) (rs := [.tmp 2, .tmp 3]) Anc.refl hro (lb_ rfl) rfl
  ·exact yo_
  ·exact k4_
  ·exact k5_
  ·rfl
  ·exact k6_
  ·exact k7_
  ·(intro β; first | (have e : targB i = false := (by first | exact targB_no he | (rw [targB_of he]; exact decide_eq_false (by omega))); simp only [resS, SV.den, denL, targV, e]; rfl) | (have e : targB i = true := (by rw [targB_of he]; exact decide_eq_true (by omega)); simp only [resS, SV.den, denL, targV, e]; rfl))
  ·exact k6_
def sRTarg : yq_ := fun args h m => match args with
 | [v1] => bif isIns v1 then some (((zs_ v1).ok), .tup [.int .i64 (targV (zs_ v1)), .bool (targB (zs_ v1))], [], []) else none
 | _ => none
theorem sRTarg_ok : zj_ Try.prog 145 sRTarg := by
 refine ⟨zi_ (by kernel_rfl), fun args h m c v rd wr hs hm hc w0 M β h' w R hrd hwr hst => ?_⟩
 unfold sRTarg at hs
 split at hs
 ·rename_i v1
  obtain ⟨hb, hs⟩ := zl_ hs
  simp only [Option.some.injEq, Prod.mk.injEq] at hs
  obtain ⟨rfl, rfl, rfl, rfl⟩ := hs
  have b1 := hb
  have y1 := hc
  refine yf_ (views := []) (rtarg_lit (zs_ v1) y1) ?_ R hm hwr ?_ ?_ ?_
  ·intro x hx; cases hx
  ·intro β1 hv
   simp only [denL, z2_, z0_, z6_, zq_, zb_, den_insOf b1, den_insS]
  ·exact k6_
  ·exact k6_
 ·cases hs
def cRCk : FuncId → Option yq_ := yz_ [(144, sROne), (145, sRTarg), (146, sRGoes)]
theorem cRCk_ok : ∀ f S, cRCk f = some S → zj_ Try.prog f S := zp_ ⟨sROne_ok, sRTarg_ok, sRGoes_ok, trivial⟩
theorem rcheck_lit (P : List Ins) (p1 : Nat) (hok : ∀ x ∈ P, x.ok) : zo_ Try.prog 112 [.sl 1 2 [] 5 0 P.length (some p1)] [.gone, .gone, .ro (.arr P.length 5 (prS P))] (.tup [.int .i64 (checkI P).1, .int .i64 (checkI P).2]) [.gone] := by
 have hgo : ∀ j, j < P.length → ∃ x, P.getD j ⟨0, 0, 0, 0, 0⟩ = x ∧ P[j]? = some x ∧ x.ok := fun j hj => ⟨P[j], by rw [List.getD_eq_getElem?_getD, List.getElem?_eq_getElem hj]; rfl, List.getElem?_eq_getElem hj, hok _ (List.getElem_mem _)⟩
 by_cases h0 : P.length = 0
 ·obtain rfl := List.eq_nil_of_length_eq_zero h0
  have e : checkI [] = (-1, 6) := rfl
  rw [e]
  refine zf_ (fn := Try.f112) 3 55 0 rfl rfl rfl rfl rfl u10_ rfl fun w0 M E hro => ?_
  repeat' (first | refine Ctl.h ?_ | ((with_reducible intro hif); first | (focus (cases hif; done)) | ((try simp only [JH] at hif); try (exfalso; omega))) | ((with_reducible first | apply J22 cRCk_ok za_ | apply J23 fol cRCk_ok za_ | apply J24); (·rfl); (· exact k91_); (try kernel_rfl); try exact y6_) | fail)
  apply At.endsRet za_ (fn := Try.f112) (rs := [.tmp 2, .tmp 3]) Anc.refl hro (lb_ rfl) rfl
  ·exact yo_
  ·exact k4_
  ·exact k5_
  ·rfl
  ·exact k6_
  ·exact k7_
  ·exact fun β => rfl
  ·exact k6_
 by_cases h256 : 256 < P.length
 ·have e : checkI P = (-1, 5) := by unfold checkI; rw [if_neg h0, if_pos h256]
  rw [e]
  refine zf_ (fn := Try.f112) 3 55 0 rfl rfl rfl rfl rfl u10_ rfl fun w0 M E hro => ?_
  repeat' (first | refine Ctl.h ?_ | ((with_reducible intro hif); first | (focus (cases hif; done)) | ((try simp only [JH] at hif); try (exfalso; omega))) | ((with_reducible first | apply J22 cRCk_ok za_ | apply J23 fol cRCk_ok za_ | apply J24); (·rfl); (· exact k92_); (try kernel_rfl); try exact y6_) | fail)
  apply At.endsRet za_ (fn := Try.f112) (rs := [.tmp 2, .tmp 3]) Anc.refl hro (lb_ rfl) rfl
  ·exact yo_
  ·exact k4_
  ·exact k5_
  ·rfl
  ·exact k6_
  ·exact k7_
  ·exact fun β => rfl
  ·exact k6_
 have eC : checkI P = checkK P := by unfold checkI; rw [if_neg h0, if_neg h256]
 rw [eC]
 refine zf_ (fn := Try.f112) 3 55 0 rfl rfl rfl rfl rfl u10_ rfl fun w0 M E hro => ?_
 repeat' (first | refine Ctl.h ?_ | ((with_reducible intro hif); first | (focus (cases hif; done)) | ((try simp only [JH] at hif); try (exfalso; omega))) | ((with_reducible first | apply J22 cRCk_ok za_ | apply J23 fol cRCk_ok za_ | apply J24); (·rfl); (· exact k92_); (try kernel_rfl); try exact y6_) | fail)
 refine WF.loopAt (fun (k : Nat) => k ≤ P.length ∧ ∀ i, i < k → ∀ y, P[i]? = some y → badAt P.length y = 0) (fun (k : Nat) => [(0, .sl 1 2 [] 5 0 P.length (some p1)), (4, .nat .i64 k)]) (fun (k : Nat) => [.gone, .gone, .ro (.arr P.length 5 (prS P))]) (fun (k : Nat) => P.length - k) 0 ⟨Nat.zero_le _, fun i hi => absurd hi (Nat.not_lt_zero i)⟩ ?_ ?_ rfl ?_ ?_ rfl ?_
 ·exact k8_
 ·exact k5_
 ·exact k6_
 ·exact k6_
 rintro k ⟨hk, hB⟩
 by_cases hkl : k < P.length
 ·obtain ⟨x, hx, hx2, hxo⟩ := hgo k hkl
  by_cases he : oneE x = 0
  ·by_cases ht : targB x = true
   ·by_cases hv : (P.length : Int) ≤ targV x
    ·have eb : badAt P.length x = 142 := by unfold badAt; rw [if_neg (fun h => h he), if_pos ⟨ht, hv⟩]
     have e := checkK_bad hB hx2 eb (by decide)
     rw [e]
     repeat' (first | refine Ctl.h ?_ | ((with_reducible intro hif); first | (focus (cases hif; done)) | ((try simp only [JH] at hif); try (exfalso; omega))) | ((with_reducible first | apply J22 cRCk_ok za_ | apply J23 fol cRCk_ok za_ | apply J24); (·rfl); (· exact k94_); (try kernel_rfl); try exact k93_) | fail)
     apply At.endsRet za_ (fn := Try.f112) (rs := [.tmp 2, .tmp 3]) Anc.refl hro (lb_ rfl) rfl
     ·exact yo_
     ·exact k4_
     ·exact k5_
     ·rfl
     ·exact k6_
     ·exact k7_
     ·exact fun β => rfl
     ·exact k6_
    ·have eb : badAt P.length x = 0 := by unfold badAt; rw [if_neg (fun h => h he), if_neg (fun h => hv h.2)]
     repeat' (first | refine Ctl.h ?_ | ((with_reducible intro hif); first | (focus (cases hif; done)) | ((try simp only [JH] at hif); try (exfalso; omega))) | ((with_reducible first | apply J22 cRCk_ok za_ | apply J23 fol cRCk_ok za_ | apply J24); (·rfl); (· exact k94_); (try kernel_rfl); try exact k93_) | fail)
     refine At.next (k + 1) ?_ ?_ ?_ rfl ?_ ?_ rfl
     ·exact k87_
     ·exact k8_
     ·exact k5_
     ·exact k6_
     ·exact k6_
   ·have eb : badAt P.length x = 0 := by unfold badAt; rw [if_neg (fun h => h he), if_neg (fun h => ht h.1)]
    repeat' (first | refine Ctl.h ?_ | ((with_reducible intro hif); first | (focus (cases hif; done)) | ((try simp only [JH] at hif); try (exfalso; omega))) | ((with_reducible first | apply J22 cRCk_ok za_ | apply J23 fol cRCk_ok za_ | apply J24); (·rfl); (· (simp only [push_cast, ↓JP, Nat.reduceAdd, Nat.reduceEqDiff, Nat.reduceLT, Nat.reduceMul, Nat.reduceLeDiff, reduceCtorEq, reduceIte, ↓JK, evm_in1, cRCk, sROne, sRTarg, sRGoes, hkl, hx, he, ht, inR, inN]; rfl)); (try kernel_rfl); try exact k93_) | fail)
    refine At.next (k + 1) ?_ ?_ ?_ rfl ?_ ?_ rfl
    ·exact k87_
    ·exact k8_
    ·exact k5_
    ·exact k6_
    ·exact k6_
  ·have eb : badAt P.length x = oneE x := if_pos he
   have e := checkK_bad hB hx2 eb he
   rw [e]
   repeat' (first | refine Ctl.h ?_ | ((with_reducible intro hif); first | (focus (cases hif; done)) | ((try simp only [JH] at hif); try (exfalso; omega))) | ((with_reducible first | apply J22 cRCk_ok za_ | apply J23 fol cRCk_ok za_ | apply J24); (·rfl); (· (simp only [push_cast, ↓JP, Nat.reduceAdd, Nat.reduceEqDiff, Nat.reduceLT, Nat.reduceMul, Nat.reduceLeDiff, reduceCtorEq, reduceIte, ↓JK, evm_in1, cRCk, sROne, sRTarg, sRGoes, hkl, hx, he, inR, inN]; rfl)); (try kernel_rfl); try exact k93_) | fail)
   apply At.endsRet za_ (fn := Try.f112) (rs := [.tmp 2, .tmp 3]) Anc.refl hro (lb_ rfl) rfl
   ·exact yo_
   ·exact k4_
   ·exact k5_
   ·rfl
   ·exact k6_
   ·exact k7_
   ·exact fun β => rfl
   ·exact k6_
 ·obtain rfl : k = P.length := by omega
  have e := checkK_none (p := P) (fun i hi y hy => hB i hi y hy)
  obtain ⟨x, hx, hx2, hxo⟩ := hgo (P.length - 1) (by omega)
  rw [e, hx]
  have hlm : ((P.length : Int) - 1).toNat = P.length - 1 := by omega
  by_cases hg : goesB x = true
  ·rw [if_pos hg]
   repeat' (first | refine Ctl.h ?_ | ((with_reducible intro hif); first | (focus (cases hif; done)) | ((try simp only [JH] at hif); try (exfalso; omega))) | ((with_reducible first | apply J22 cRCk_ok za_ | apply J23 fol cRCk_ok za_ | apply J24); (·rfl); (· exact k95_); (try kernel_rfl); try exact k93_) | fail)
   apply At.endsRet za_ (fn := Try.f112) (rs := [.tmp 2, .tmp 3]) Anc.refl hro (lb_ rfl) rfl
   ·exact yo_
   ·exact k4_
   ·exact k5_
   ·rfl
   ·exact k6_
   ·exact k7_
   ·exact fun β => rfl
   ·exact k6_
  ·rw [if_neg hg]
   repeat' (first | refine Ctl.h ?_ | ((with_reducible intro hif); first | (focus (cases hif; done)) | ((try simp only [JH] at hif); try (exfalso; omega))) | ((with_reducible first | apply J22 cRCk_ok za_ | apply J23 fol cRCk_ok za_ | apply J24); (·rfl); (· exact k95_); (try kernel_rfl); try exact k93_) | fail)
   apply At.endsRet za_ (fn := Try.f112) (rs := [.tmp 2, .tmp 3]) Anc.refl hro (lb_ rfl) rfl
   ·exact yo_
   ·exact k4_
   ·exact k5_
   ·rfl
   ·exact k6_
   ·exact k7_
   ·exact fun β => rfl
   ·exact k6_
def sRCheck : yq_ := fun args h m => match args with
 | [v1] => match y2_ h 5 (.tup []) v1 with
  | some (c1, n1, f1, r1) => some (c1 ∧ (∀ q, q < n1 → isIns (f1 q) = true) ∧ ((∀ x ∈ (ls zs_ n1 f1), x.ok)), .tup [.int .i64 (checkI (ls zs_ n1 f1)).1, .int .i64 (checkI (ls zs_ n1 f1)).2], r1, [])
  | _ => none
 | _ => none
theorem sRCheck_ok : zj_ Try.prog 112 sRCheck := by
 refine ⟨zi_ (by kernel_rfl), fun args h m c v rd wr hs hm hc w0 M β h' w R hrd hwr hst => ?_⟩
 unfold sRCheck at hs
 split at hs
 ·rename_i v1
  split at hs
  ·rename_i c1 n1 f1 r1 a1
   simp only [Option.some.injEq, Prod.mk.injEq] at hs
   obtain ⟨rfl, rfl, rfl, rfl⟩ := hs
   obtain ⟨k1, g1, y1⟩ := hc
   obtain ⟨A1, p1, d1, e1, t1⟩ := zg_ R a1 k1 (fun i hi => hrd i hi) (by omega)
   refine yf_ (views := [⟨5, (ls zs_ n1 f1).length, prS (ls zs_ n1 f1), A1, p1⟩]) (rcheck_lit (ls zs_ n1 f1) p1 y1) ?_ R hm hwr ?_ ?_ ?_
   ·intro x hx
    simp only [List.mem_cons, List.not_mem_nil, or_false] at hx
    subst hx
    ·exact viewIns t1 e1 g1
   ·intro β1 hv
    simp only [Vd, zb_, and_true] at hv
    have z1 := hv
    simp only [denL, z2_, z0_, z6_, zq_, zb_, z1, d1]
   ·exact k6_
   ·exact k6_
  ·cases hs
 ·cases hs
end Go.Proofs.Ytmljmabbopkpiaa.Vm
end
end

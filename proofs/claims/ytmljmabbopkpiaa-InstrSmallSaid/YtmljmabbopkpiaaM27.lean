import Derived.Test.YtmljmabbopkpiaaM1
import Derived.Test.YtmljmabbopkpiaaM8
import Derived.Test.YtmljmabbopkpiaaM9
import Derived.Test.YtmljmabbopkpiaaM19
import Derived.Test.YtmljmabbopkpiaaM25
import Derived.Test.YtmljmabbopkpiaaM26
set_option linter.unusedSimpArgs false
set_option linter.unusedVariables false
set_option maxRecDepth 100000
set_option maxHeartbeats 4000000
section
open Go.Proofs.Ytmljmabbopkpiaa.Vm Go.RowKit
attribute [local push_cast] prS zm_ zo_ nav_ins xe_ xd_ xc_ xb_ xa_ nav_snd y9_ y8_ y7_ zu_ z7_ yf_ z5_ ya_ z9_ iOf
section
namespace Go.Proofs.Ytmljmabbopkpiaa.Vm
open Go.RowKit
section
variable {ρ : Nat → Nat} {h h' : HM} {g c k a b : Nat} {s : Sta} {v : Evi} {x : Ins} {ok : Prop}
theorem bun_mac (hp : macP h g = some (s, v, x, c, k, ok)) (hok : ok) (eg : h' g = h g) (ha : ρ a = c) (hb : ρ b = k) : Bun1 ρ (h' g) (mB s v x a b) := by
 obtain ⟨l, cf, sf, hg, hgl, _⟩ := mac_val hp hok
 show Less (h' g) (.own 152 ((macS s v x a b).ren ρ) true)
 rw [eg, hg, macS_ren, ha, hb]
 exact .val hgl (fun n k f e => by cases e) (fun n k f e => by cases e)
theorem bun_cel (hp : macP h g = some (s, v, x, c, k, ok)) (hok : ok) (ec : h' c = h c) : Bun1 ρ (h' c) (cB s) := by
 obtain ⟨l, cf, sf, hg, hgl, hc, hcl, _⟩ := mac_val hp hok
 show Less (h' c) (.own 2 (.arr s.cells.length 1 (zo_ s.cells)) false)
 rw [ec, hc]
 exact .val (fun β => arrCl (hcl β)) (fun n k f e => by injection e with e1 e2 e3; subst e1 e2; exact ⟨_, rfl⟩) (fun n k f e => by injection e with e1 e2 e3; subst e1 e2; exact ⟨_, rfl⟩)
theorem sndsS_ren (ρ : Nat → Nat) (l : List Snd) : (fun q => (zm_ l q).ren ρ) = zm_ l := by
 funext q; unfold zm_; simp only [sndS, SV.ren, renL]
theorem bun_snd (hp : macP h g = some (s, v, x, c, k, ok)) (hok : ok) (ek : h' k = h k) : Bun1 ρ (h' k) (sB s) := by
 obtain ⟨l, cf, sf, hg, hgl, hc, hcl, hk, hkl, _⟩ := mac_val hp hok
 show Less (h' k) (.own 64 (.arr s.sends.length 3 fun q => (zm_ s.sends q).ren ρ) false)
 rw [ek, hk, sndsS_ren]
 exact .val (fun β => arrCl (hkl β)) (fun n k f e => by injection e with e1 e2 e3; subst e1 e2; exact ⟨_, rfl⟩) (fun n k f e => by injection e with e1 e2 e3; subst e1 e2; exact ⟨_, rfl⟩)
def prR (P : List Ins) : HB := .ro (.arr P.length 5 (prS P))
def prO (P : List Ins) : HB := .own 28 (.arr P.length 5 (prS P)) false
theorem prS_ren (ρ : Nat → Nat) (l : List Ins) : (fun q => (prS l q).ren ρ) = prS l := by
 funext q; unfold prS; simp only [yo_, SV.ren, renL]
variable {i n : Nat} {P : List Ins}
end
def cSt : FuncId → Option yp_ := yy_ [(111, mS doF)]
theorem cSt_ok : ∀ f S, cSt f = some S → zj_ Try.prog f S := zq_ ⟨m_do, trivial⟩
end Go.Proofs.Ytmljmabbopkpiaa.Vm
end
section
namespace Go.Proofs.Ytmljmabbopkpiaa.Vm
open Go.RowKit
theorem prR_st {h : HM} {P : List Ins} : (prR P).stable h := fun q => prS_stable q
def sCheck : yp_ := fun args h m => match args with
 | [v1] => match y6_ h 5 (.tup []) v1 with
  | some (c1, n1, f1, r1) => some (c1 ∧ (∀ q, q < n1 → isIns (f1 q) = true) ∧ ((∀ x ∈ (ls zt_ n1 f1), x.ok)) ∧ (n1 ≤ 281474976710656), .tup [.int .i64 (checkI (ls zt_ n1 f1)).1, .int .i64 (checkI (ls zt_ n1 f1)).2], r1, [])
  | _ => none
 | _ => none
theorem sCheck_ok : zj_ Try.prog 55 sCheck := by
 refine ⟨zi_ (by kernel_rfl), fun args h m c v rd wr hs hm hc w0 M β h' w R hrd hwr hst => ?_⟩
 unfold sCheck at hs
 split at hs
 ·rename_i v1
  split at hs
  ·rename_i c1 n1 f1 r1 a1
   simp only [Option.some.injEq, Prod.mk.injEq] at hs
   obtain ⟨rfl, rfl, rfl, rfl⟩ := hs
   obtain ⟨k1, g1, y1, y2⟩ := hc
   obtain ⟨A1, p1, d1, e1, t1⟩ := zg_ R a1 k1 (fun i hi => hrd i hi) (by omega)
   rw [elems_ins g1] at t1
   simp only [denL, z4_, z3_, yd_, zs_, d1]
   exact (check_c A1 n1 p1 (by omega) (ls zt_ n1 f1) y1 w t1).mono fun e w' he => post_read R (by (repeat' (first | exact trivial | exact rfl | assumption | apply zb_.ite | apply And.intro | intro _ | (simp only [zb_, ze_, zo_, prS, yo_, zm_, sndS]; done)))) rfl he.1 he.2
  ·cases hs
 ·cases hs
def cOp : FuncId → Option yp_ := yy_ [(55, sCheck), (109, sVRight), (110, sSRight), (86, sCopied)]
theorem cOp_ok : ∀ f S, cOp f = some S → zj_ Try.prog f S := zq_ ⟨sCheck_ok, sVRight_ok, sSRight_ok, sCopied_ok, trivial⟩
theorem less_mac0 {σ : Nat → Nat} {c k c' k' : Nat} (s : Sta) (v : Evi) (hc : σ c = c') (hk : σ k = k') :
  Less (.own 152 (.agg [.agg [.int .i64 s.at_, .bool s.ended, .arr 8 1 (fun q => .int .i64 (s.regs q)), .sl c' c' [] 1 0 s.cells.length none, .int .i64 s.draws, .sl k' k' [] 3 0 s.sends.length none], .agg [.int .u64 v.seed, .int .i64 v.process, .int .i64 v.ports, .int .i64 v.look, .int .i64 v.now], .agg [.nat .u8 0, .nat .u8 0, .nat .u8 0, .nat .u8 0, .nat .i64 0]]) true) ((mB s v Ins0 c k).ren σ) := by
 subst hc hk
 rw [mB_ren]
 exact .val (fun β => rfl) (fun n k f e => by cases e) (fun n k f e => by cases e)
theorem open_good (P : List Ins) (v : Evi) (s : Sta) (p1 p2 p3 : Nat) (hP : ∀ x ∈ P, x.ok) (hn : P.length ≤ 281474976710656) (hc : s.cells.length ≤ 1000000) (hs : s.sends.length ≤ 1000000) (hE : y2_ P v s = 0) : zp_ Try.prog 75 [.sl 1 2 [] 5 0 P.length (some p1), .agg [.int .u64 v.seed, .int .i64 v.process, .int .i64 v.ports, .int .i64 v.look, .int .i64 v.now], .agg [.int .i64 s.at_, .bool s.ended, .arr 8 1 (fun q => .int .i64 (s.regs q)), .sl 3 4 [] 1 0 s.cells.length (some p2), .int .i64 s.draws, .sl 5 6 [] 3 0 s.sends.length (some p3)]]
  [.gone, .gone, .ro (.arr P.length 5 (prS P)), .gone, .ro (.arr s.cells.length 1 (zo_ s.cells)), .gone, .ro (.arr s.sends.length 3 (zm_ s.sends))]
  (.tup [.ptr 7 [], .int .i64 0]) [.gone, .gone, .gone, .gone, .gone, .gone, .gone, mB s v Ins0 8 9, cB s, sB s] := by
 unfold y2_ at hE
 have q1 : (checkI P).2 = 0 := by
  by_cases q : (checkI P).2 = 0
  ·exact q
  ·rw [if_pos q] at hE; cases hE
 rw [if_neg (fun h => h q1)] at hE
 have q2 : v.rightB = true := by
  cases q : v.rightB
  ·rw [if_pos q] at hE; cases hE
  ·rfl
 rw [if_neg (by rw [q2]; exact Bool.noConfusion)] at hE
 have q3 : s.rightB P.length = true := by
  cases q : s.rightB P.length
  ·rw [if_pos q] at hE; cases hE
  ·rfl
 refine zf_ (fn := Try.f75) 7 32 0 rfl rfl rfl rfl rfl u9_ rfl fun w0 M E hro => ?_
 repeat' (first | refine Ctl.h ?_ | ((with_reducible intro hif); first | (focus (cases hif; done)) | ((try simp only [JH] at hif); try (exfalso; omega))) | ((with_reducible first | apply J22 cOp_ok za_ | apply J23 fol cOp_ok za_ | apply J24); (·rfl); (· exact k88_); (try kernel_rfl); try exact k87_) | fail)
 apply At.endsPick [0, 1, 2, 3, 4, 5, 6, 11, 9, 10] za_ (fn := Try.f75) (rs := [.tmp 6, .tmp 7]) Anc.refl hro (lb_ rfl) rfl
 ·exact yq_
 ·exact k14_
 ·rfl
 ·rfl
 ·rfl
 ·(repeat' (first | exact trivial | exact .inl rfl | exact .inr (.same _) | exact .inr .loose | exact .inr (.arr (by assumption)) | apply And.intro | (refine .inr (less_mac0 _ _ ?_ ?_) <;> rfl)))
 ·rfl
 ·exact k86_
 ·exact k7_
 ·exact fun β => rfl
 ·exact k86_
theorem open_bad (P : List Ins) (v : Evi) (s : Sta) (p1 p2 p3 : Nat) (hP : ∀ x ∈ P, x.ok) (hn : P.length ≤ 281474976710656) (hc : s.cells.length ≤ 1000000) (hs : s.sends.length ≤ 1000000) (hE : y2_ P v s ≠ 0) : zp_ Try.prog 75 [.sl 1 2 [] 5 0 P.length (some p1), .agg [.int .u64 v.seed, .int .i64 v.process, .int .i64 v.ports, .int .i64 v.look, .int .i64 v.now], .agg [.int .i64 s.at_, .bool s.ended, .arr 8 1 (fun q => .int .i64 (s.regs q)), .sl 3 4 [] 1 0 s.cells.length (some p2), .int .i64 s.draws, .sl 5 6 [] 3 0 s.sends.length (some p3)]]
  [.gone, .gone, .ro (.arr P.length 5 (prS P)), .gone, .ro (.arr s.cells.length 1 (zo_ s.cells)), .gone, .ro (.arr s.sends.length 3 (zm_ s.sends))]
  (.tup [.nilp, .int .i64 (y2_ P v s)]) [.gone] := by
 by_cases q1 : (checkI P).2 = 0
 ·cases q2 : v.rightB
  ·have e : y2_ P v s = 181 := by unfold y2_; rw [if_neg (fun h => h q1), if_pos q2]
   rw [e]
   refine zf_ (fn := Try.f75) 7 32 0 rfl rfl rfl rfl rfl u9_ rfl fun w0 M E hro => ?_
   repeat' (first | refine Ctl.h ?_ | ((with_reducible intro hif); first | (focus (cases hif; done)) | ((try simp only [JH] at hif); try (exfalso; omega))) | ((with_reducible first | apply J22 cOp_ok za_ | apply J23 fol cOp_ok za_ | apply J24); (·rfl); (· (simp only [push_cast, ↓JP, Nat.reduceAdd, Nat.reduceEqDiff, Nat.reduceLT, Nat.reduceMul, Nat.reduceLeDiff, reduceCtorEq, reduceIte, ↓JK, JM, cOp, sCheck, sVRight, sSRight, sCopied, JE, inR, inN, q1, q2]; rfl)); (try kernel_rfl); try exact k87_) | fail)
   apply At.endsRet za_ (fn := Try.f75) (rs := [.tmp 6, .tmp 7]) Anc.refl hro (lb_ rfl) rfl
   ·exact yq_
   ·exact k4_
   ·exact k5_
   ·rfl
   ·exact k86_
   ·exact k7_
   ·exact fun β => rfl
   ·exact k86_
  ·cases q3 : s.rightB P.length
   ·have e : y2_ P v s = 182 := by unfold y2_; rw [if_neg (fun h => h q1), if_neg (by rw [q2]; exact Bool.noConfusion), if_pos q3]
    rw [e]
    refine zf_ (fn := Try.f75) 7 32 0 rfl rfl rfl rfl rfl u9_ rfl fun w0 M E hro => ?_
    repeat' (first | refine Ctl.h ?_ | ((with_reducible intro hif); first | (focus (cases hif; done)) | ((try simp only [JH] at hif); try (exfalso; omega))) | ((with_reducible first | apply J22 cOp_ok za_ | apply J23 fol cOp_ok za_ | apply J24); (·rfl); (· exact k88_); (try kernel_rfl); try exact k87_) | fail)
    apply At.endsRet za_ (fn := Try.f75) (rs := [.tmp 6, .tmp 7]) Anc.refl hro (lb_ rfl) rfl
    ·exact yq_
    ·exact k4_
    ·exact k5_
    ·rfl
    ·exact k86_
    ·exact k7_
    ·exact fun β => rfl
    ·exact k86_
   ·exact absurd (by unfold y2_; rw [if_neg (fun h => h q1), if_neg (by rw [q2]; exact Bool.noConfusion), if_neg (by rw [q3]; exact Bool.noConfusion)]) hE
 ·have e : y2_ P v s = 180 := by unfold y2_; rw [if_pos q1]
  rw [e]
  refine zf_ (fn := Try.f75) 7 32 0 rfl rfl rfl rfl rfl u9_ rfl fun w0 M E hro => ?_
  repeat' (first | refine Ctl.h ?_ | ((with_reducible intro hif); first | (focus (cases hif; done)) | ((try simp only [JH] at hif); try (exfalso; omega))) | ((with_reducible first | apply J22 cOp_ok za_ | apply J23 fol cOp_ok za_ | apply J24); (·rfl); (· (simp only [push_cast, ↓JP, Nat.reduceAdd, Nat.reduceEqDiff, Nat.reduceLT, Nat.reduceMul, Nat.reduceLeDiff, reduceCtorEq, reduceIte, ↓JK, JM, cOp, sCheck, sVRight, sSRight, sCopied, JE, inR, inN, q1]; rfl)); (try kernel_rfl); try exact k87_) | fail)
  apply At.endsRet za_ (fn := Try.f75) (rs := [.tmp 6, .tmp 7]) Anc.refl hro (lb_ rfl) rfl
  ·exact yq_
  ·exact k4_
  ·exact k5_
  ·rfl
  ·exact k86_
  ·exact k7_
  ·exact fun β => rfl
  ·exact k86_
def sOpenG : yp_ := fun args h m => match args with
 | [v1, .agg [v2, v3, v4, v5, v6], .agg [v7, .bool v8, .arr 8 1 v9, v10, v11, v12]] => match y6_ h 5 (.tup []) v1, y6_ h 1 (.tup []) v10, y6_ h 3 (.tup []) v12 with
  | some (c1, n1, f1, r1), some (c10, n10, f10, r10), some (c12, n12, f12, r12) => bif isI .u64 v2 && isI .i64 v3 && isI .i64 v4 && isI .i64 v5 && isI .i64 v6 && isI .i64 v7 && isI .i64 v11 then some (c1 ∧ c10 ∧ c12 ∧ (∀ q, q < n1 → isIns (f1 q) = true) ∧ (∀ q, q < n10 → isI .i64 (f10 q) = true) ∧ (∀ q, q < n12 → isSnd (f12 q) = true) ∧ (∀ q, q < 8 → isI .i64 (v9 q) = true) ∧ ((∀ x ∈ (ls zt_ n1 f1), x.ok)) ∧ (n1 ≤ 281474976710656) ∧ (n10 ≤ 1000000) ∧ (n12 ≤ 1000000) ∧ (y2_ (ls zt_ n1 f1) ⟨(iOf v2), (iOf v3), (iOf v4), (iOf v5), (iOf v6)⟩ ⟨(iOf v7), v8, (fun q => iOf (v9 q)), (ls iOf n10 f10), (iOf v11), (ls zn_ n12 f12)⟩ = 0), .tup [.ptr m [], .int .i64 0], r1 ++ r10 ++ r12, [(m, mB ⟨(iOf v7), v8, (fun q => iOf (v9 q)), (ls iOf n10 f10), (iOf v11), (ls zn_ n12 f12)⟩ ⟨(iOf v2), (iOf v3), (iOf v4), (iOf v5), (iOf v6)⟩ Ins0 (m + 1) (m + 2)), (m + 1, cB ⟨(iOf v7), v8, (fun q => iOf (v9 q)), (ls iOf n10 f10), (iOf v11), (ls zn_ n12 f12)⟩), (m + 2, sB ⟨(iOf v7), v8, (fun q => iOf (v9 q)), (ls iOf n10 f10), (iOf v11), (ls zn_ n12 f12)⟩)]) else none
  | _, _, _ => none
 | _ => none
theorem sOpenG_ok : zj_ Try.prog 75 sOpenG := by
 refine ⟨zi_ (by kernel_rfl), fun args h m c v rd wr hs hm hc w0 M β h' w R hrd hwr hst => ?_⟩
 unfold sOpenG at hs
 split at hs
 ·rename_i v1 v2 v3 v4 v5 v6 v7 v8 v9 v10 v11 v12
  split at hs
  ·rename_i c1 n1 f1 r1 c10 n10 f10 r10 c12 n12 f12 r12 a1 a10 a12
   obtain ⟨hb, hs⟩ := zl_ hs
   simp only [Option.some.injEq, Prod.mk.injEq] at hs
   obtain ⟨rfl, rfl, rfl, rfl⟩ := hs
   simp only [Bool.and_eq_true] at hb
   obtain ⟨⟨⟨⟨⟨⟨b2, b3⟩, b4⟩, b5⟩, b6⟩, b7⟩, b11⟩ := hb
   obtain ⟨k1, k10, k12, g1, g10, g12, g9, y1, y2, y3, y4, y5⟩ := hc
   obtain ⟨A1, p1, d1, e1, t1⟩ := zg_ R a1 k1 (fun i hi => hrd i (List.mem_append_left _ (List.mem_append_left _ hi))) (by omega)
   obtain ⟨A10, p10, d10, e10, t10⟩ := zg_ R a10 k10 (fun i hi => hrd i (List.mem_append_left _ (List.mem_append_right _ hi))) (by omega)
   obtain ⟨A12, p12, d12, e12, t12⟩ := zg_ R a12 k12 (fun i hi => hrd i (List.mem_append_right _ hi)) (by omega)
   refine yl_ (views := [⟨5, (ls zt_ n1 f1).length, prS (ls zt_ n1 f1), A1, p1⟩, ⟨1, (ls iOf n10 f10).length, zo_ (ls iOf n10 f10), A10, p10⟩, ⟨3, (ls zn_ n12 f12).length, zm_ (ls zn_ n12 f12), A12, p12⟩]) (open_good (ls zt_ n1 f1) ⟨(iOf v2), (iOf v3), (iOf v4), (iOf v5), (iOf v6)⟩ ⟨(iOf v7), v8, (fun q => iOf (v9 q)), (ls iOf n10 f10), (iOf v11), (ls zn_ n12 f12)⟩ p1 p10 p12 y1 (by rw [zc_]; exact y2) (by rw [zc_]; exact y3) (by rw [zc_]; exact y4) y5) ?_ R hm hwr ?_ ?_ ?_
   ·exact d38_
   ·exact d39_
   ·exact k86_
   ·exact k86_
  ·cases hs
 ·cases hs
def sOpenB : yp_ := fun args h m => match args with
 | [v1, .agg [v2, v3, v4, v5, v6], .agg [v7, .bool v8, .arr 8 1 v9, v10, v11, v12]] => match y6_ h 5 (.tup []) v1, y6_ h 1 (.tup []) v10, y6_ h 3 (.tup []) v12 with
  | some (c1, n1, f1, r1), some (c10, n10, f10, r10), some (c12, n12, f12, r12) => bif isI .u64 v2 && isI .i64 v3 && isI .i64 v4 && isI .i64 v5 && isI .i64 v6 && isI .i64 v7 && isI .i64 v11 then some (c1 ∧ c10 ∧ c12 ∧ (∀ q, q < n1 → isIns (f1 q) = true) ∧ (∀ q, q < n10 → isI .i64 (f10 q) = true) ∧ (∀ q, q < n12 → isSnd (f12 q) = true) ∧ (∀ q, q < 8 → isI .i64 (v9 q) = true) ∧ ((∀ x ∈ (ls zt_ n1 f1), x.ok)) ∧ (n1 ≤ 281474976710656) ∧ (n10 ≤ 1000000) ∧ (n12 ≤ 1000000) ∧ (y2_ (ls zt_ n1 f1) ⟨(iOf v2), (iOf v3), (iOf v4), (iOf v5), (iOf v6)⟩ ⟨(iOf v7), v8, (fun q => iOf (v9 q)), (ls iOf n10 f10), (iOf v11), (ls zn_ n12 f12)⟩ ≠ 0), .tup [.nilp, .int .i64 (y2_ (ls zt_ n1 f1) ⟨(iOf v2), (iOf v3), (iOf v4), (iOf v5), (iOf v6)⟩ ⟨(iOf v7), v8, (fun q => iOf (v9 q)), (ls iOf n10 f10), (iOf v11), (ls zn_ n12 f12)⟩)], r1 ++ r10 ++ r12, []) else none
  | _, _, _ => none
 | _ => none
theorem sOpenB_ok : zj_ Try.prog 75 sOpenB := by
 refine ⟨zi_ (by kernel_rfl), fun args h m c v rd wr hs hm hc w0 M β h' w R hrd hwr hst => ?_⟩
 unfold sOpenB at hs
 split at hs
 ·rename_i v1 v2 v3 v4 v5 v6 v7 v8 v9 v10 v11 v12
  split at hs
  ·rename_i c1 n1 f1 r1 c10 n10 f10 r10 c12 n12 f12 r12 a1 a10 a12
   obtain ⟨hb, hs⟩ := zl_ hs
   simp only [Option.some.injEq, Prod.mk.injEq] at hs
   obtain ⟨rfl, rfl, rfl, rfl⟩ := hs
   simp only [Bool.and_eq_true] at hb
   obtain ⟨⟨⟨⟨⟨⟨b2, b3⟩, b4⟩, b5⟩, b6⟩, b7⟩, b11⟩ := hb
   obtain ⟨k1, k10, k12, g1, g10, g12, g9, y1, y2, y3, y4, y5⟩ := hc
   obtain ⟨A1, p1, d1, e1, t1⟩ := zg_ R a1 k1 (fun i hi => hrd i (List.mem_append_left _ (List.mem_append_left _ hi))) (by omega)
   obtain ⟨A10, p10, d10, e10, t10⟩ := zg_ R a10 k10 (fun i hi => hrd i (List.mem_append_left _ (List.mem_append_right _ hi))) (by omega)
   obtain ⟨A12, p12, d12, e12, t12⟩ := zg_ R a12 k12 (fun i hi => hrd i (List.mem_append_right _ hi)) (by omega)
   refine yl_ (views := [⟨5, (ls zt_ n1 f1).length, prS (ls zt_ n1 f1), A1, p1⟩, ⟨1, (ls iOf n10 f10).length, zo_ (ls iOf n10 f10), A10, p10⟩, ⟨3, (ls zn_ n12 f12).length, zm_ (ls zn_ n12 f12), A12, p12⟩]) (open_bad (ls zt_ n1 f1) ⟨(iOf v2), (iOf v3), (iOf v4), (iOf v5), (iOf v6)⟩ ⟨(iOf v7), v8, (fun q => iOf (v9 q)), (ls iOf n10 f10), (iOf v11), (ls zn_ n12 f12)⟩ p1 p10 p12 y1 (by rw [zc_]; exact y2) (by rw [zc_]; exact y3) (by rw [zc_]; exact y4) y5) ?_ R hm hwr ?_ ?_ ?_
   ·exact d38_
   ·exact d39_
   ·exact k86_
   ·exact k86_
  ·cases hs
 ·cases hs
end Go.Proofs.Ytmljmabbopkpiaa.Vm
end
end
section
namespace Go.Proofs.Ytmljmabbopkpiaa.Vm
open Go.RowKit
theorem strDen {β : Env} {s : ByteArray} : (SV.str s).den β = .string s := rfl
def cntB (s : ByteArray) (c : Int) : Nat → Nat
 | 0 => 0
 | j + 1 => cntB s c j + if bat s j = c then 1 else 0
theorem cntB_le (s : ByteArray) (c : Int) : ∀ j, cntB s c j ≤ j
 | 0 => Nat.le_refl 0
 | j + 1 => by
  have := cntB_le s c j
  unfold cntB
  split <;> omega
theorem cnt_lit (s : ByteArray) (c : Int) (hs : s.size ≤ 1000000) : zp_ Try.prog 173 [.str s, .int .u8 c] [.gone] (.nat .i64 (cntB s c s.size)) [.gone] := by
 refine zf_ (fn := Try.f173) 1 21 0 rfl rfl rfl rfl rfl u10_ rfl fun w0 M E hro => ?_
 repeat' (first | refine Ctl.h ?_ | ((with_reducible intro hif); first | (focus (cases hif; done)) | ((try simp only [JH] at hif); try (exfalso; omega))) | ((with_reducible first | apply J22 zx_ za_ | apply J23 fol zx_ za_ | apply J24); (·rfl); (· exact k16_); (try kernel_rfl); try exact xi_) | fail)
 refine WF.loopAt (fun (j : Nat) => j ≤ s.size) (fun (j : Nat) => [(0, .str s), (1, .int .u8 c), (5, .nat .i64 (cntB s c j)), (6, .nat .i64 j)]) (fun (j : Nat) => [.gone]) (fun (j : Nat) => s.size - j) 0 (Nat.zero_le _) ?_ ?_ rfl ?_ ?_ rfl ?_
 ·exact k8_
 ·exact k5_
 ·exact k6_
 ·exact k6_
 intro j hj
 have hcj := cntB_le s c j
 by_cases hjl : j < s.size
 ·by_cases hc : bat s j = c
  ·have e : cntB s c (j + 1) = cntB s c j + 1 := by rw [cntB, if_pos hc]
   repeat' (first | refine Ctl.h ?_ | ((with_reducible intro hif); first | (focus (cases hif; done)) | ((try simp only [JH] at hif); try (exfalso; omega))) | ((with_reducible first | apply J22 zx_ za_ | apply J23 fol zx_ za_ | apply J24); (·rfl); (· exact k89_); (try kernel_rfl); try exact k26_) | fail)
   refine At.next (j + 1) ?_ ?_ ?_ rfl ?_ ?_ rfl
   ·exact ⟨hjl, by omega⟩
   ·((repeat' (first | exact trivial | apply And.intro)) <;> (first | rfl | (rw [e]; rfl)))
   ·exact k5_
   ·exact k6_
   ·exact k6_
  ·have e : cntB s c (j + 1) = cntB s c j := by rw [cntB, if_neg hc]; rfl
   repeat' (first | refine Ctl.h ?_ | ((with_reducible intro hif); first | (focus (cases hif; done)) | ((try simp only [JH] at hif); try (exfalso; omega))) | ((with_reducible first | apply J22 zx_ za_ | apply J23 fol zx_ za_ | apply J24); (·rfl); (· exact k89_); (try kernel_rfl); try exact k26_) | fail)
   refine At.next (j + 1) ?_ ?_ ?_ rfl ?_ ?_ rfl
   ·exact ⟨hjl, by omega⟩
   ·((repeat' (first | exact trivial | apply And.intro)) <;> (first | rfl | (rw [e]; rfl)))
   ·exact k5_
   ·exact k6_
   ·exact k6_
 ·obtain rfl : j = s.size := by omega
  repeat' (first | refine Ctl.h ?_ | ((with_reducible intro hif); first | (focus (cases hif; done)) | ((try simp only [JH] at hif); try (exfalso; omega))) | ((with_reducible first | apply J22 zx_ za_ | apply J23 fol zx_ za_ | apply J24); (·rfl); (· exact k19_); (try kernel_rfl); try exact xi_) | fail)
  apply At.endsRet za_ (fn := Try.f173) (rs := [.tmp 4]) Anc.refl hro (lb_ rfl) rfl
  ·exact k3_
  ·exact k4_
  ·exact k5_
  ·rfl
  ·exact k6_
  ·exact k7_
  ·exact fun β => rfl
  ·exact k6_
def sRCnt : yp_ := fun args h m => match args with
 | [.str v1, v2] => bif isI .u8 v2 then some ((v1.size ≤ 1000000), .nat .i64 (cntB v1 (iOf v2) v1.size), [], []) else none
 | _ => none
theorem sRCnt_ok : zj_ Try.prog 173 sRCnt := by
 refine ⟨zi_ (by kernel_rfl), fun args h m c v rd wr hs hm hc w0 M β h' w R hrd hwr hst => ?_⟩
 unfold sRCnt at hs
 split at hs
 ·rename_i v1 v2
  obtain ⟨hb, hs⟩ := zl_ hs
  simp only [Option.some.injEq, Prod.mk.injEq] at hs
  obtain ⟨rfl, rfl, rfl, rfl⟩ := hs
  have b2 := hb
  have y1 := hc
  refine yl_ (views := []) (cnt_lit v1 (iOf v2) y1) ?_ R hm hwr ?_ ?_ ?_
  ·intro x hx; cases hx
  ·intro β1 hv
   simp only [denL, z4_, z3_, yd_, zs_, zc_, strDen, zd_ b2]
  ·exact k6_
  ·exact k6_
 ·cases hs
theorem formC_cases (op : Int) : (32 < op ∧ op ≤ 49 ∧ y0_ op = 1) ∨ ((op = 1 ∨ op = 2) ∧ y0_ op = 2) ∨ (op = 3 ∧ y0_ op = 3) ∨ (4 ≤ op ∧ op ≤ 7 ∧ y0_ op = 4) ∨ (op = 8 ∧ y0_ op = 5) ∨ (op = 9 ∧ y0_ op = 6) ∨ ((op = 10 ∨ op = 11) ∧ y0_ op = 7) ∨ (¬ (32 < op ∧ op ≤ 49) ∧ ¬ (1 ≤ op ∧ op ≤ 11) ∧ y0_ op = 0) := by
 unfold y0_
 repeat' split
 all_goals omega
theorem rform_lit (op : Int) (h0 : 0 ≤ op ∧ op ≤ 255) : zp_ Try.prog 172 [.int .u8 op] [.gone] (.tup [.str (z1_ (y0_ op)), .bool (decide (y0_ op ≠ 0))]) [.gone] := by
 rcases formC_cases op with ⟨h1, h2, hk⟩ | ⟨h1, hk⟩ | ⟨h1, hk⟩ | ⟨h1, h2, hk⟩ | ⟨h1, hk⟩ | ⟨h1, hk⟩ | ⟨h1, hk⟩ | ⟨h1, h2, hk⟩
 all_goals
  rw [hk]
  refine zf_ (fn := Try.f172) 1 28 0 rfl rfl rfl rfl rfl u10_ rfl fun w0 M E hro => ?_
  repeat' (first | refine Ctl.h ?_ | ((with_reducible intro hif); first | (focus (cases hif; done)) | ((try simp only [JH] at hif); try (exfalso; omega))) | ((with_reducible first | apply J22 zx_ za_ | apply J23 fol zx_ za_ | apply J24); (·rfl); (· exact k16_); (try kernel_rfl); try exact xi_) | fail)
 all_goals
  apply At.endsRet za_ (fn := Try.f172) (rs := [.tmp 2, .tmp 3]) Anc.refl hro (lb_ rfl) rfl
  ·exact k3_
  ·exact k4_
  ·exact k5_
  ·rfl
  ·exact k6_
  ·exact k7_
  ·(intro β; first | rfl | (exfalso; simp only [Bool.and_eq_false_iff, decide_eq_false_iff_not] at hif; omega))
  ·exact k6_
def sRForm : yp_ := fun args h m => match args with
 | [v1] => bif isI .u8 v1 then some ((0 ≤ (iOf v1) ∧ (iOf v1) ≤ 255), .tup [.str (z1_ (y0_ (iOf v1))), .bool (decide (y0_ (iOf v1) ≠ 0))], [], []) else none
 | _ => none
theorem sRForm_ok : zj_ Try.prog 172 sRForm := by
 refine ⟨zi_ (by kernel_rfl), fun args h m c v rd wr hs hm hc w0 M β h' w R hrd hwr hst => ?_⟩
 unfold sRForm at hs
 split at hs
 ·rename_i v1
  obtain ⟨hb, hs⟩ := zl_ hs
  simp only [Option.some.injEq, Prod.mk.injEq] at hs
  obtain ⟨rfl, rfl, rfl, rfl⟩ := hs
  have b1 := hb
  have y1 := hc
  refine yl_ (views := []) (rform_lit (iOf v1) y1) ?_ R hm hwr ?_ ?_ ?_
  ·intro x hx; cases hx
  ·exact d27_
  ·exact k6_
  ·exact k6_
 ·cases hs
end Go.Proofs.Ytmljmabbopkpiaa.Vm
end

import Derived.Test.YtmljmabbopkpiaaK1
import Derived.Test.YtmljmabbopkpiaaK8
import Derived.Test.YtmljmabbopkpiaaK9
import Derived.Test.YtmljmabbopkpiaaK22
import Derived.Test.YtmljmabbopkpiaaK29
import Derived.Test.YtmljmabbopkpiaaK31
set_option linter.unusedSimpArgs false
set_option linter.unusedVariables false
set_option maxRecDepth 100000
set_option maxHeartbeats 4000000
section
open Go.Proofs.Ytmljmabbopkpiaa.Vm Go.RowKit
attribute [local push_cast] prS sndsS i64S nav_ins xa_ y9_ y8_ y7_ y6_ nav_snd y5_ y4_ y3_ zq_ z1_ ya_ z5_ zx_ zw_ iOf
section
namespace Go.Proofs.Ytmljmabbopkpiaa.Vm
open Go.RowKit
section
variable {ρ : Nat → Nat} {h h' : HM} {g c k a b : Nat} {s : Sta} {v : Evi} {x : Ins} {ok : Prop}
theorem bun_mac (hp : macP h g = some (s, v, x, c, k, ok)) (hok : ok) (eg : h' g = h g) (ha : ρ a = c) (hb : ρ b = k) : Bun1 ρ (h' g) (mB s v x a b) := by
 obtain ⟨l, cf, sf, hg, hgl, _⟩ := mac_val hp hok
 show Less (h' g) (.own 152 ((macS s v x a b).ren ρ) true)
 rw [eg, hg, macS_ren, ha, hb]
 exact .val hgl (fun n k f e => by cases e) (fun n k f e => by cases e)
theorem bun_macR (hp : macP h g = some (s, v, x, c, k, ok)) (hok : ok) (eg : h' g = h g) (ha : ρ a = c) (hb : ρ b = k) : Bun1 ρ (h' g) (.ro (macS s v x a b)) := by
 obtain ⟨l, cf, sf, hg, hgl, _⟩ := mac_val hp hok
 show Fit ρ _ _
 exact .ro (u := .agg l) (by rw [eg, hg]; rfl) (fun β => by rw [macS_ren, ha, hb]; exact hgl β) (fun n k f e => by rw [macS_ren] at e; cases e)
theorem bun_cel (hp : macP h g = some (s, v, x, c, k, ok)) (hok : ok) (ec : h' c = h c) : Bun1 ρ (h' c) (cB s) := by
 obtain ⟨l, cf, sf, hg, hgl, hc, hcl, _⟩ := mac_val hp hok
 show Less (h' c) (.own 2 (.arr s.cells.length 1 (i64S s.cells)) false)
 rw [ec, hc]
 exact .val (fun β => arrCl (hcl β)) (fun n k f e => by injection e with e1 e2 e3; subst e1 e2; exact ⟨_, rfl⟩) (fun n k f e => by injection e with e1 e2 e3; subst e1 e2; exact ⟨_, rfl⟩)
theorem sndsS_ren (ρ : Nat → Nat) (l : List Snd) : (fun q => (sndsS l q).ren ρ) = sndsS l := by
 funext q; unfold sndsS; simp only [sndS, SV.ren, renL]
theorem bun_snd (hp : macP h g = some (s, v, x, c, k, ok)) (hok : ok) (ek : h' k = h k) : Bun1 ρ (h' k) (sB s) := by
 obtain ⟨l, cf, sf, hg, hgl, hc, hcl, hk, hkl, _⟩ := mac_val hp hok
 show Less (h' k) (.own 64 (.arr s.sends.length 3 fun q => (sndsS s.sends q).ren ρ) false)
 rw [ek, hk, sndsS_ren]
 exact .val (fun β => arrCl (hkl β)) (fun n k f e => by injection e with e1 e2 e3; subst e1 e2; exact ⟨_, rfl⟩) (fun n k f e => by injection e with e1 e2 e3; subst e1 e2; exact ⟨_, rfl⟩)
theorem bun_cel0 (hp : macP h g = some (s, v, x, c, k, ok)) (hok : ok) (ec : h' c = h c) : Bun1 ρ (h' c) .gone := by
 obtain ⟨l, cf, sf, hg, hgl, hc, _⟩ := mac_val hp hok
 exact Fit.gone (by rw [ec, hc]; rfl)
theorem bun_snd0 (hp : macP h g = some (s, v, x, c, k, ok)) (hok : ok) (ek : h' k = h k) : Bun1 ρ (h' k) .gone := by
 obtain ⟨l, cf, sf, hg, hgl, hc, _, hk, _⟩ := mac_val hp hok
 exact Fit.gone (by rw [ek, hk]; rfl)
def prP (h : HM) (i : Nat) : Option (Nat × List Ins × Prop) := match h i with
 | .own t (.arr n 5 f) false => bif Nat.beq t 28 then some (n, ls zr_ n f, ∀ q, q < n → isIns (f q) = true) else none
 | _ => none
def prR (P : List Ins) : HB := .ro (.arr P.length 5 (prS P))
def prO (P : List Ins) : HB := .own 28 (.arr P.length 5 (prS P)) false
theorem prS_ren (ρ : Nat → Nat) (l : List Ins) : (fun q => (prS l q).ren ρ) = prS l := by
 funext q; unfold prS; simp only [ym_, SV.ren, renL]
variable {i n : Nat} {P : List Ins}
theorem prP_len (hp : prP h i = some (n, P, ok)) : n = P.length := by
 unfold prP at hp
 split at hp
 ·obtain ⟨hb, hs⟩ := zk_ hp
  simp only [Option.some.injEq, Prod.mk.injEq] at hs
  obtain ⟨rfl, rfl, rfl⟩ := hs
  rw [zc_]
 ·cases hp
theorem bun_pr (hp : prP h i = some (n, P, ok)) (hok : ok) (ei : h' i = h i) : Bun1 ρ (h' i) (prR P) := by
 unfold prP at hp
 split at hp
 ·rename_i t n f hi
  obtain ⟨hb, hs⟩ := zk_ hp
  simp only [Option.some.injEq, Prod.mk.injEq] at hs
  obtain ⟨rfl, rfl, rfl⟩ := hs
  refine Fit.ro (u := .arr n 5 f) (by rw [ei, hi]; rfl) (fun β => ?_) (fun n1 k1 f1 e => by
   simp only [SV.ren] at e
   injection e with e1 e2 e3
   rw [zc_] at e1
   subst e1 e2
   exact ⟨_, rfl⟩)
  simp only [SV.ren, prS_ren, zc_]
  refine arrCl fun q hq => ?_
  unfold prS
  rw [isIns_cl (hok q hq), ls_getD hq, isIns_cl (zq_ _), z1_]
 ·cases hp
theorem bun_pr0 (hp : prP h i = some (n, P, ok)) (ei : h' i = h i) : Bun1 ρ (h' i) .gone := by
 unfold prP at hp
 split at hp
 ·rename_i t n f hi
  exact Fit.gone (by rw [ei, hi]; rfl)
 ·cases hp
end
def pS : yp_ := fun args h m => match args with
 | [.ptr g [], .sl z i [] 5 0 n none] => match macP h g, prP h i with
  | some (s, v, x, c, k, ok), some (n', P, ok2) => bif Nat.beq z i && Nat.beq n n' && nodupN [0, g, c, k, i] then
    some ((ok ∧ ok2) ∧ PG P ∧ VOk v ∧ SG P s, .int .i64 (stepE P v s), [g, c, k, i], [(g, mB (yl_ P v s) v (stepX P s x) c m), (c, cB (yl_ P v s)), (k, .gone), (m, sB (yl_ P v s))]) else none
  | _, _ => none
 | _ => none
def cSt : FuncId → Option yp_ := yx_ [(111, mS doF)]
theorem cSt_ok : ∀ f S, cSt f = some S → zj_ Try.prog f S := zn_ ⟨m_do, trivial⟩
theorem step_lit (P : List Ins) (s : Sta) (v : Evi) (x : Ins) (hP : PG P) (V : VOk v) (hS : SG P s) : zo_ Try.prog 76 [.ptr 1 [], .sl 4 4 [] 5 0 P.length none] [.gone, mB s v x 2 3, cB s, sB s, prR P] (.int .i64 (stepE P v s))
  [.gone, mB (yl_ P v s) v (stepX P s x) 2 5, cB (yl_ P v s), .gone, .gone, sB (yl_ P v s)] := by
 have R := hS.ri hP
 have S := hS.sok hP
 have a0 := hS.a0
 have a1 := hS.a1
 have hlt : s.at_.toNat < P.length := by omega
 have hl := hP.len
 unfold insAt at R
 obtain ⟨at0, en, rg, ce, dr, se⟩ := s
 dsimp only at a0 a1 hlt R
 cases en
 ·have e1 : stepE P v ⟨at0, false, rg, ce, dr, se⟩ = doE ⟨at0, false, rg, ce, dr, se⟩ v (P.getD at0.toNat ⟨0, 0, 0, 0, 0⟩) := rfl
  have e2 : yl_ P v ⟨at0, false, rg, ce, dr, se⟩ = doS ⟨at0, false, rg, ce, dr, se⟩ v (P.getD at0.toNat ⟨0, 0, 0, 0, 0⟩) := rfl
  have e3 : stepX P ⟨at0, false, rg, ce, dr, se⟩ x = P.getD at0.toNat ⟨0, 0, 0, 0, 0⟩ := rfl
  rw [e1, e2, e3]
  refine zf_ (fn := Try.f76) 5 23 0 rfl rfl rfl rfl rfl (by simp only [ze_, zb_, hp, i64S, prS, ym_, sndsS, sndS, stS, evS, macS]; simp [HB.born, mB, cB, sB, prR]) rfl fun w0 M E hro => ?_
  repeat' (first | refine Ctl.h ?_ | ((with_reducible intro hif); first | (focus (cases hif; done)) | ((try simp only [JH] at hif); try (exfalso; omega))) | ((with_reducible first | apply J22 cSt_ok za_ | apply J23 fol cSt_ok za_ | apply J24); (·rfl); (· exact k87_); (try kernel_rfl); try exact k26_) | fail)
  apply At.endsPick [0, 1, 2, 3, 4, 5] za_ (fn := Try.f76) (rs := [.tmp 4]) Anc.refl hro (lb_ rfl) rfl
  ·exact yo_
  ·exact k14_
  ·rfl
  ·rfl
  ·rfl
  ·exact k30_
  ·rfl
  ·exact yt_
  ·exact k7_
  ·exact fun β => rfl
  ·exact yt_
 ·have e1 : stepE P v ⟨at0, true, rg, ce, dr, se⟩ = 183 := rfl
  have e2 : yl_ P v ⟨at0, true, rg, ce, dr, se⟩ = ⟨at0, true, rg, ce, dr, se⟩ := rfl
  have e3 : stepX P ⟨at0, true, rg, ce, dr, se⟩ x = x := rfl
  rw [e1, e2, e3]
  refine zf_ (fn := Try.f76) 5 23 0 rfl rfl rfl rfl rfl (by simp only [ze_, zb_, hp, i64S, prS, ym_, sndsS, sndS, stS, evS, macS]; simp [HB.born, mB, cB, sB, prR]) rfl fun w0 M E hro => ?_
  repeat' (first | refine Ctl.h ?_ | ((with_reducible intro hif); first | (focus (cases hif; done)) | ((try simp only [JH] at hif); try (exfalso; omega))) | ((with_reducible first | apply J22 cSt_ok za_ | apply J23 fol cSt_ok za_ | apply J24); (·rfl); (· exact k87_); (try kernel_rfl); try exact k26_) | fail)
  apply At.endsPick [0, 1, 2, 3, 4, 3] za_ (fn := Try.f76) (rs := [.tmp 4]) Anc.refl hro (lb_ rfl) rfl
  ·exact yo_
  ·exact k14_
  ·rfl
  ·rfl
  ·rfl
  ·exact k30_
  ·rfl
  ·exact yt_
  ·exact k7_
  ·exact fun β => rfl
  ·exact yt_
end Go.Proofs.Ytmljmabbopkpiaa.Vm
end
section
namespace Go.Proofs.Ytmljmabbopkpiaa.Vm
open Go.RowKit
theorem prR_st {h : HM} {P : List Ins} : (prR P).stable h := fun q => prS_stable q
theorem pS_ok : zj_ Try.prog 76 pS := by
 refine ⟨zg_ (by kernel_rfl), fun args h m c v rd wr hs hm hc w0 M β h' w R hrd hwr hst => ?_⟩
 unfold pS at hs
 split at hs
 ·rename_i g z i n
  split at hs
  ·rename_i s v x c k ok n' P ok2 hmp hpp
   obtain ⟨hb, hs⟩ := zk_ hs
   simp only [Option.some.injEq, Prod.mk.injEq] at hs
   obtain ⟨rfl, rfl, rfl, rfl⟩ := hs
   simp only [Bool.and_eq_true] at hb
   obtain ⟨⟨hzi, hnn⟩, hnd⟩ := hb
   have hzi := Nat.eq_of_beq_eq_true hzi
   have hnn := Nat.eq_of_beq_eq_true hnn
   subst hzi hnn
   have hnl := prP_len hpp
   obtain ⟨⟨hok, hok2⟩, hP, hV, hS⟩ := hc
   have eg := hrd g (by simp)
   have ec := hrd c (by simp)
   have ek := hrd k (by simp)
   have ei := hrd z (by simp)
   exact bun_ok (h := h) (m := m) [0, g, c, k, z] (step_lit P s v x hP hV hS) R rfl (by simp) rfl rfl hnd
    ⟨Fit.gone (by rw [R.nil0]; rfl), bun_mac hmp hok eg rfl rfl, bun_cel hmp hok ec, bun_snd hmp hok ek, bun_pr hpp hok2 ei, trivial⟩ hm
    (fun p hp => by
     simp only [newB, List.drop, List.length_cons, List.length_nil, List.mem_cons, List.not_mem_nil, or_false] at hp
     subst hp
     exact hwr (m, sB (yl_ P v s)) (by simp)) (by simp) rfl
    ⟨trivial, mB_st rfl rfl, cB_st, sB_st, prR_st, trivial⟩ ⟨rfl, ⟨rfl, rfl⟩, trivial⟩
    ⟨trivial, mB_st rfl rfl, cB_st, trivial, prR_st, sB_st, trivial⟩ trivial (by rw [hnl]; rfl) rfl (by
     have e : rhoL [0, g, c, k, z] m 5 = m := by simp [rhoL]
     show [(g, (mB _ v _ 2 5).ren _), (c, (cB _).ren _), (k, HB.gone.ren _), (m, (sB _).ren _)] = _
     rw [mB_ren, cB_ren, sB_ren, e]; rfl)
  ·cases hs
 ·cases hs
def sCheck : yp_ := fun args h m => match args with
 | [v1] => match y2_ h 5 (.tup []) v1 with
  | some (c1, n1, f1, r1) => some (c1 ∧ (∀ q, q < n1 → isIns (f1 q) = true) ∧ ((∀ x ∈ (ls zr_ n1 f1), x.ok)) ∧ (n1 ≤ 281474976710656), .tup [.int .i64 (checkI (ls zr_ n1 f1)).1, .int .i64 (checkI (ls zr_ n1 f1)).2], r1, [])
  | _ => none
 | _ => none
theorem sCheck_ok : zj_ Try.prog 55 sCheck := by
 refine ⟨zg_ (by kernel_rfl), fun args h m c v rd wr hs hm hc w0 M β h' w R hrd hwr hst => ?_⟩
 unfold sCheck at hs
 split at hs
 ·rename_i v1
  split at hs
  ·rename_i c1 n1 f1 r1 a1
   simp only [Option.some.injEq, Prod.mk.injEq] at hs
   obtain ⟨rfl, rfl, rfl, rfl⟩ := hs
   obtain ⟨k1, g1, y1, y2⟩ := hc
   obtain ⟨A1, p1, d1, e1, t1⟩ := zi_ R a1 k1 (fun i hi => hrd i hi) (by omega)
   rw [elems_ins g1] at t1
   simp only [denL, z8_, z6_, z9_, zs_, d1]
   exact (check_c A1 n1 p1 (by omega) (ls zr_ n1 f1) y1 w t1).mono fun e w' he => post_read R (by (repeat' (first | exact trivial | exact rfl | assumption | apply zb_.ite | apply And.intro | intro _ | (simp only [zb_, ze_, i64S, prS, ym_, sndsS, sndS]; done)))) rfl he.1 he.2
  ·cases hs
 ·cases hs
def cOp : FuncId → Option yp_ := yx_ [(55, sCheck), (109, sVRight), (110, sSRight), (86, sCopied)]
theorem cOp_ok : ∀ f S, cOp f = some S → zj_ Try.prog f S := zn_ ⟨sCheck_ok, sVRight_ok, sSRight_ok, sCopied_ok, trivial⟩
theorem less_mac0 {σ : Nat → Nat} {c k c' k' : Nat} (s : Sta) (v : Evi) (hc : σ c = c') (hk : σ k = k') :
  Less (.own 152 (.agg [.agg [.int .i64 s.at_, .bool s.ended, .arr 8 1 (fun q => .int .i64 (s.regs q)), .sl c' c' [] 1 0 s.cells.length none, .int .i64 s.draws, .sl k' k' [] 3 0 s.sends.length none], .agg [.int .u64 v.seed, .int .i64 v.process, .int .i64 v.ports, .int .i64 v.look, .int .i64 v.now], .agg [.nat .u8 0, .nat .u8 0, .nat .u8 0, .nat .u8 0, .nat .i64 0]]) true) ((mB s v Ins0 c k).ren σ) := by
 subst hc hk
 rw [mB_ren]
 exact .val (fun β => rfl) (fun n k f e => by cases e) (fun n k f e => by cases e)
theorem open_good (P : List Ins) (v : Evi) (s : Sta) (p1 p2 p3 : Nat) (hP : ∀ x ∈ P, x.ok) (hn : P.length ≤ 281474976710656) (hc : s.cells.length ≤ 1000000) (hs : s.sends.length ≤ 1000000) (hE : yr_ P v s = 0) : zo_ Try.prog 75 [.sl 1 2 [] 5 0 P.length (some p1), .agg [.int .u64 v.seed, .int .i64 v.process, .int .i64 v.ports, .int .i64 v.look, .int .i64 v.now], .agg [.int .i64 s.at_, .bool s.ended, .arr 8 1 (fun q => .int .i64 (s.regs q)), .sl 3 4 [] 1 0 s.cells.length (some p2), .int .i64 s.draws, .sl 5 6 [] 3 0 s.sends.length (some p3)]]
  [.gone, .gone, .ro (.arr P.length 5 (prS P)), .gone, .ro (.arr s.cells.length 1 (i64S s.cells)), .gone, .ro (.arr s.sends.length 3 (sndsS s.sends))]
  (.tup [.ptr 7 [], .int .i64 0]) [.gone, .gone, .gone, .gone, .gone, .gone, .gone, mB s v Ins0 8 9, cB s, sB s] := by
 unfold yr_ at hE
 have q1 : (checkI P).2 = 0 := by
  by_cases q : (checkI P).2 = 0
  ·exact q
  ·rw [if_pos q] at hE; cases hE
 rw [if_neg (fun h => h q1)] at hE
 have q2 : v.rightB = true := by
  cases q : v.rightB
  ·rw [if_pos q] at hE; cases hE
  ·rfl
 rw [if_neg (by rw [q2]; exact Bool.noConfusion)] at hE
 have q3 : s.rightB P.length = true := by
  cases q : s.rightB P.length
  ·rw [if_pos q] at hE; cases hE
  ·rfl
 refine zf_ (fn := Try.f75) 7 32 0 rfl rfl rfl rfl rfl u8_ rfl fun w0 M E hro => ?_
 repeat' (first | refine Ctl.h ?_ | ((with_reducible intro hif); first | (focus (cases hif; done)) | ((try simp only [JH] at hif); try (exfalso; omega))) | ((with_reducible first | apply J22 cOp_ok za_ | apply J23 fol cOp_ok za_ | apply J24); (·rfl); (· exact k89_); (try kernel_rfl); try exact k88_) | fail)
 apply At.endsPick [0, 1, 2, 3, 4, 5, 6, 11, 9, 10] za_ (fn := Try.f75) (rs := [.tmp 6, .tmp 7]) Anc.refl hro (lb_ rfl) rfl
 ·exact yo_
 ·exact k14_
 ·rfl
 ·rfl
 ·rfl
 ·(repeat' (first | exact trivial | exact .inl rfl | exact .inr (.same _) | exact .inr .loose | exact .inr (.arr (by assumption)) | apply And.intro | (refine .inr (less_mac0 _ _ ?_ ?_) <;> rfl)))
 ·rfl
 ·exact k86_
 ·exact k7_
 ·exact fun β => rfl
 ·exact k86_
theorem open_bad (P : List Ins) (v : Evi) (s : Sta) (p1 p2 p3 : Nat) (hP : ∀ x ∈ P, x.ok) (hn : P.length ≤ 281474976710656) (hc : s.cells.length ≤ 1000000) (hs : s.sends.length ≤ 1000000) (hE : yr_ P v s ≠ 0) : zo_ Try.prog 75 [.sl 1 2 [] 5 0 P.length (some p1), .agg [.int .u64 v.seed, .int .i64 v.process, .int .i64 v.ports, .int .i64 v.look, .int .i64 v.now], .agg [.int .i64 s.at_, .bool s.ended, .arr 8 1 (fun q => .int .i64 (s.regs q)), .sl 3 4 [] 1 0 s.cells.length (some p2), .int .i64 s.draws, .sl 5 6 [] 3 0 s.sends.length (some p3)]]
  [.gone, .gone, .ro (.arr P.length 5 (prS P)), .gone, .ro (.arr s.cells.length 1 (i64S s.cells)), .gone, .ro (.arr s.sends.length 3 (sndsS s.sends))]
  (.tup [.nilp, .int .i64 (yr_ P v s)]) [.gone] := by
 by_cases q1 : (checkI P).2 = 0
 ·cases q2 : v.rightB
  ·have e : yr_ P v s = 181 := by unfold yr_; rw [if_neg (fun h => h q1), if_pos q2]
   rw [e]
   refine zf_ (fn := Try.f75) 7 32 0 rfl rfl rfl rfl rfl u8_ rfl fun w0 M E hro => ?_
   repeat' (first | refine Ctl.h ?_ | ((with_reducible intro hif); first | (focus (cases hif; done)) | ((try simp only [JH] at hif); try (exfalso; omega))) | ((with_reducible first | apply J22 cOp_ok za_ | apply J23 fol cOp_ok za_ | apply J24); (·rfl); (· (simp only [push_cast, ↓JP, Nat.reduceAdd, Nat.reduceEqDiff, Nat.reduceLT, Nat.reduceMul, Nat.reduceLeDiff, reduceCtorEq, reduceIte, ↓JK, JM, cOp, sCheck, sVRight, sSRight, sCopied, JE, inR, inN, q1, q2]; rfl)); (try kernel_rfl); try exact k88_) | fail)
   apply At.endsRet za_ (fn := Try.f75) (rs := [.tmp 6, .tmp 7]) Anc.refl hro (lb_ rfl) rfl
   ·exact yo_
   ·exact k4_
   ·exact k5_
   ·rfl
   ·exact k86_
   ·exact k7_
   ·exact fun β => rfl
   ·exact k86_
  ·cases q3 : s.rightB P.length
   ·have e : yr_ P v s = 182 := by unfold yr_; rw [if_neg (fun h => h q1), if_neg (by rw [q2]; exact Bool.noConfusion), if_pos q3]
    rw [e]
    refine zf_ (fn := Try.f75) 7 32 0 rfl rfl rfl rfl rfl u8_ rfl fun w0 M E hro => ?_
    repeat' (first | refine Ctl.h ?_ | ((with_reducible intro hif); first | (focus (cases hif; done)) | ((try simp only [JH] at hif); try (exfalso; omega))) | ((with_reducible first | apply J22 cOp_ok za_ | apply J23 fol cOp_ok za_ | apply J24); (·rfl); (· exact k89_); (try kernel_rfl); try exact k88_) | fail)
    apply At.endsRet za_ (fn := Try.f75) (rs := [.tmp 6, .tmp 7]) Anc.refl hro (lb_ rfl) rfl
    ·exact yo_
    ·exact k4_
    ·exact k5_
    ·rfl
    ·exact k86_
    ·exact k7_
    ·exact fun β => rfl
    ·exact k86_
   ·exact absurd (by unfold yr_; rw [if_neg (fun h => h q1), if_neg (by rw [q2]; exact Bool.noConfusion), if_neg (by rw [q3]; exact Bool.noConfusion)]) hE
 ·have e : yr_ P v s = 180 := by unfold yr_; rw [if_pos q1]
  rw [e]
  refine zf_ (fn := Try.f75) 7 32 0 rfl rfl rfl rfl rfl u8_ rfl fun w0 M E hro => ?_
  repeat' (first | refine Ctl.h ?_ | ((with_reducible intro hif); first | (focus (cases hif; done)) | ((try simp only [JH] at hif); try (exfalso; omega))) | ((with_reducible first | apply J22 cOp_ok za_ | apply J23 fol cOp_ok za_ | apply J24); (·rfl); (· (simp only [push_cast, ↓JP, Nat.reduceAdd, Nat.reduceEqDiff, Nat.reduceLT, Nat.reduceMul, Nat.reduceLeDiff, reduceCtorEq, reduceIte, ↓JK, JM, cOp, sCheck, sVRight, sSRight, sCopied, JE, inR, inN, q1]; rfl)); (try kernel_rfl); try exact k88_) | fail)
  apply At.endsRet za_ (fn := Try.f75) (rs := [.tmp 6, .tmp 7]) Anc.refl hro (lb_ rfl) rfl
  ·exact yo_
  ·exact k4_
  ·exact k5_
  ·rfl
  ·exact k86_
  ·exact k7_
  ·exact fun β => rfl
  ·exact k86_
def sOpenG : yp_ := fun args h m => match args with
 | [v1, .agg [v2, v3, v4, v5, v6], .agg [v7, .bool v8, .arr 8 1 v9, v10, v11, v12]] => match y2_ h 5 (.tup []) v1, y2_ h 1 (.tup []) v10, y2_ h 3 (.tup []) v12 with
  | some (c1, n1, f1, r1), some (c10, n10, f10, r10), some (c12, n12, f12, r12) => bif isI .u64 v2 && isI .i64 v3 && isI .i64 v4 && isI .i64 v5 && isI .i64 v6 && isI .i64 v7 && isI .i64 v11 then some (c1 ∧ c10 ∧ c12 ∧ (∀ q, q < n1 → isIns (f1 q) = true) ∧ (∀ q, q < n10 → isI .i64 (f10 q) = true) ∧ (∀ q, q < n12 → isSnd (f12 q) = true) ∧ (∀ q, q < 8 → isI .i64 (v9 q) = true) ∧ ((∀ x ∈ (ls zr_ n1 f1), x.ok)) ∧ (n1 ≤ 281474976710656) ∧ (n10 ≤ 1000000) ∧ (n12 ≤ 1000000) ∧ (yr_ (ls zr_ n1 f1) ⟨(iOf v2), (iOf v3), (iOf v4), (iOf v5), (iOf v6)⟩ ⟨(iOf v7), v8, (fun q => iOf (v9 q)), (ls iOf n10 f10), (iOf v11), (ls zm_ n12 f12)⟩ = 0), .tup [.ptr m [], .int .i64 0], r1 ++ r10 ++ r12, [(m, mB ⟨(iOf v7), v8, (fun q => iOf (v9 q)), (ls iOf n10 f10), (iOf v11), (ls zm_ n12 f12)⟩ ⟨(iOf v2), (iOf v3), (iOf v4), (iOf v5), (iOf v6)⟩ Ins0 (m + 1) (m + 2)), (m + 1, cB ⟨(iOf v7), v8, (fun q => iOf (v9 q)), (ls iOf n10 f10), (iOf v11), (ls zm_ n12 f12)⟩), (m + 2, sB ⟨(iOf v7), v8, (fun q => iOf (v9 q)), (ls iOf n10 f10), (iOf v11), (ls zm_ n12 f12)⟩)]) else none
  | _, _, _ => none
 | _ => none
theorem sOpenG_ok : zj_ Try.prog 75 sOpenG := by
 refine ⟨zg_ (by kernel_rfl), fun args h m c v rd wr hs hm hc w0 M β h' w R hrd hwr hst => ?_⟩
 unfold sOpenG at hs
 split at hs
 ·rename_i v1 v2 v3 v4 v5 v6 v7 v8 v9 v10 v11 v12
  split at hs
  ·rename_i c1 n1 f1 r1 c10 n10 f10 r10 c12 n12 f12 r12 a1 a10 a12
   obtain ⟨hb, hs⟩ := zk_ hs
   simp only [Option.some.injEq, Prod.mk.injEq] at hs
   obtain ⟨rfl, rfl, rfl, rfl⟩ := hs
   simp only [Bool.and_eq_true] at hb
   obtain ⟨⟨⟨⟨⟨⟨b2, b3⟩, b4⟩, b5⟩, b6⟩, b7⟩, b11⟩ := hb
   obtain ⟨k1, k10, k12, g1, g10, g12, g9, y1, y2, y3, y4, y5⟩ := hc
   obtain ⟨A1, p1, d1, e1, t1⟩ := zi_ R a1 k1 (fun i hi => hrd i (List.mem_append_left _ (List.mem_append_left _ hi))) (by omega)
   obtain ⟨A10, p10, d10, e10, t10⟩ := zi_ R a10 k10 (fun i hi => hrd i (List.mem_append_left _ (List.mem_append_right _ hi))) (by omega)
   obtain ⟨A12, p12, d12, e12, t12⟩ := zi_ R a12 k12 (fun i hi => hrd i (List.mem_append_right _ hi)) (by omega)
   refine yj_ (views := [⟨5, (ls zr_ n1 f1).length, prS (ls zr_ n1 f1), A1, p1⟩, ⟨1, (ls iOf n10 f10).length, i64S (ls iOf n10 f10), A10, p10⟩, ⟨3, (ls zm_ n12 f12).length, sndsS (ls zm_ n12 f12), A12, p12⟩]) (open_good (ls zr_ n1 f1) ⟨(iOf v2), (iOf v3), (iOf v4), (iOf v5), (iOf v6)⟩ ⟨(iOf v7), v8, (fun q => iOf (v9 q)), (ls iOf n10 f10), (iOf v11), (ls zm_ n12 f12)⟩ p1 p10 p12 y1 (by rw [zc_]; exact y2) (by rw [zc_]; exact y3) (by rw [zc_]; exact y4) y5) ?_ R hm hwr ?_ ?_ ?_
   ·intro x hx
    simp only [List.mem_cons, List.not_mem_nil, or_false] at hx
    rcases hx with rfl | rfl | rfl
    ·exact viewIns t1 e1 g1
    ·exact yf_ t10 e10 g10
    ·exact y0_ t12 e12 g12
   ·intro β1 hv
    simp only [Vd, zc_, and_true] at hv
    obtain ⟨z1, z10, z12⟩ := hv
    simp only [denL, z8_, z6_, z9_, zs_, zc_, z1, z10, z12, d1, d10, d12, zd_ b2, zd_ b3, zd_ b4, zd_ b5, zd_ b6, zd_ b7, zd_ b11, ← r8Den (β := β) (β1 := β1) g9]
   ·exact k86_
   ·exact k86_
  ·cases hs
 ·cases hs
def sOpenB : yp_ := fun args h m => match args with
 | [v1, .agg [v2, v3, v4, v5, v6], .agg [v7, .bool v8, .arr 8 1 v9, v10, v11, v12]] => match y2_ h 5 (.tup []) v1, y2_ h 1 (.tup []) v10, y2_ h 3 (.tup []) v12 with
  | some (c1, n1, f1, r1), some (c10, n10, f10, r10), some (c12, n12, f12, r12) => bif isI .u64 v2 && isI .i64 v3 && isI .i64 v4 && isI .i64 v5 && isI .i64 v6 && isI .i64 v7 && isI .i64 v11 then some (c1 ∧ c10 ∧ c12 ∧ (∀ q, q < n1 → isIns (f1 q) = true) ∧ (∀ q, q < n10 → isI .i64 (f10 q) = true) ∧ (∀ q, q < n12 → isSnd (f12 q) = true) ∧ (∀ q, q < 8 → isI .i64 (v9 q) = true) ∧ ((∀ x ∈ (ls zr_ n1 f1), x.ok)) ∧ (n1 ≤ 281474976710656) ∧ (n10 ≤ 1000000) ∧ (n12 ≤ 1000000) ∧ (yr_ (ls zr_ n1 f1) ⟨(iOf v2), (iOf v3), (iOf v4), (iOf v5), (iOf v6)⟩ ⟨(iOf v7), v8, (fun q => iOf (v9 q)), (ls iOf n10 f10), (iOf v11), (ls zm_ n12 f12)⟩ ≠ 0), .tup [.nilp, .int .i64 (yr_ (ls zr_ n1 f1) ⟨(iOf v2), (iOf v3), (iOf v4), (iOf v5), (iOf v6)⟩ ⟨(iOf v7), v8, (fun q => iOf (v9 q)), (ls iOf n10 f10), (iOf v11), (ls zm_ n12 f12)⟩)], r1 ++ r10 ++ r12, []) else none
  | _, _, _ => none
 | _ => none
theorem sOpenB_ok : zj_ Try.prog 75 sOpenB := by
 refine ⟨zg_ (by kernel_rfl), fun args h m c v rd wr hs hm hc w0 M β h' w R hrd hwr hst => ?_⟩
 unfold sOpenB at hs
 split at hs
 ·rename_i v1 v2 v3 v4 v5 v6 v7 v8 v9 v10 v11 v12
  split at hs
  ·rename_i c1 n1 f1 r1 c10 n10 f10 r10 c12 n12 f12 r12 a1 a10 a12
   obtain ⟨hb, hs⟩ := zk_ hs
   simp only [Option.some.injEq, Prod.mk.injEq] at hs
   obtain ⟨rfl, rfl, rfl, rfl⟩ := hs
   simp only [Bool.and_eq_true] at hb
   obtain ⟨⟨⟨⟨⟨⟨b2, b3⟩, b4⟩, b5⟩, b6⟩, b7⟩, b11⟩ := hb
   obtain ⟨k1, k10, k12, g1, g10, g12, g9, y1, y2, y3, y4, y5⟩ := hc
   obtain ⟨A1, p1, d1, e1, t1⟩ := zi_ R a1 k1 (fun i hi => hrd i (List.mem_append_left _ (List.mem_append_left _ hi))) (by omega)
   obtain ⟨A10, p10, d10, e10, t10⟩ := zi_ R a10 k10 (fun i hi => hrd i (List.mem_append_left _ (List.mem_append_right _ hi))) (by omega)
   obtain ⟨A12, p12, d12, e12, t12⟩ := zi_ R a12 k12 (fun i hi => hrd i (List.mem_append_right _ hi)) (by omega)
   refine yj_ (views := [⟨5, (ls zr_ n1 f1).length, prS (ls zr_ n1 f1), A1, p1⟩, ⟨1, (ls iOf n10 f10).length, i64S (ls iOf n10 f10), A10, p10⟩, ⟨3, (ls zm_ n12 f12).length, sndsS (ls zm_ n12 f12), A12, p12⟩]) (open_bad (ls zr_ n1 f1) ⟨(iOf v2), (iOf v3), (iOf v4), (iOf v5), (iOf v6)⟩ ⟨(iOf v7), v8, (fun q => iOf (v9 q)), (ls iOf n10 f10), (iOf v11), (ls zm_ n12 f12)⟩ p1 p10 p12 y1 (by rw [zc_]; exact y2) (by rw [zc_]; exact y3) (by rw [zc_]; exact y4) y5) ?_ R hm hwr ?_ ?_ ?_
   ·intro x hx
    simp only [List.mem_cons, List.not_mem_nil, or_false] at hx
    rcases hx with rfl | rfl | rfl
    ·exact viewIns t1 e1 g1
    ·exact yf_ t10 e10 g10
    ·exact y0_ t12 e12 g12
   ·intro β1 hv
    simp only [Vd, zc_, and_true] at hv
    obtain ⟨z1, z10, z12⟩ := hv
    simp only [denL, z8_, z6_, z9_, zs_, zc_, z1, z10, z12, d1, d10, d12, zd_ b2, zd_ b3, zd_ b4, zd_ b5, zd_ b6, zd_ b7, zd_ b11, ← r8Den (β := β) (β1 := β1) g9]
   ·exact k86_
   ·exact k86_
  ·cases hs
 ·cases hs
end Go.Proofs.Ytmljmabbopkpiaa.Vm
end
end

import Derived.Test.YtmljmabbopkpiaaM1
import Derived.Test.YtmljmabbopkpiaaM9
import Derived.Test.YtmljmabbopkpiaaM27
import Derived.Test.YtmljmabbopkpiaaM30
set_option linter.unusedSimpArgs false
set_option linter.unusedVariables false
set_option maxRecDepth 100000
set_option maxHeartbeats 4000000
section
namespace Go.Proofs.Ytmljmabbopkpiaa.Vm
open Go.RowKit
theorem eqI64_lit (xs ys : List Int) (p1 p2 : Nat) (hx : xs.length ≤ 281474976710656) : zp_ Try.prog 61 [.sl 1 2 [] 1 0 xs.length (some p1), .sl 3 4 [] 1 0 ys.length (some p2)] [.gone, .gone, .ro (.arr xs.length 1 (zo_ xs)), .gone, .ro (.arr ys.length 1 (zo_ ys))] (.bool (eqL xs ys)) [.gone] := by
 refine zf_ (fn := Try.f61) 5 26 0 rfl rfl rfl rfl rfl u2_ rfl fun w0 M E hro => ?_
 repeat' (first | refine Ctl.h ?_ | ((with_reducible intro hif); first | (focus (cases hif; done)) | ((try simp only [JH] at hif); try (exfalso; omega))) | ((with_reducible first | apply J22 zx_ za_ | apply J23 fol zx_ za_ | apply J24); (·rfl); (· exact k16_); (try kernel_rfl); try exact xi_) | fail)
 ·have hne : xs ≠ ys := fun e => hif (by rw [e])
  apply At.endsRet za_ (fn := Try.f61) (rs := [.tmp 4]) Anc.refl hro (lb_ rfl) rfl
  ·exact k3_
  ·exact k4_
  ·exact k5_
  ·rfl
  ·exact k6_
  ·exact k7_
  ·rw [eqL_false hne]; exact fun β => rfl
  ·exact k6_
 ·refine WF.loopAt (fun j => j ≤ xs.length ∧ ∀ q, q < j → xs.getD q 0 = ys.getD q 0) (fun j => [(0, .sl 1 2 [] 1 0 xs.length (some p1)), (1, .sl 3 4 [] 1 0 ys.length (some p2)), (12, .nat .i64 xs.length), (13, .nat .i64 j)]) (fun j => [.gone, .gone, .ro (.arr xs.length 1 (zo_ xs)), .gone, .ro (.arr ys.length 1 (zo_ ys))]) (fun j => xs.length - j) 0 ⟨Nat.zero_le _, fun q hq => absurd hq (Nat.not_lt_zero q)⟩ ?_ ?_ rfl ?_ ?_ rfl ?_
  ·exact k8_
  ·exact k5_
  ·exact k6_
  ·exact k6_
  have hlen := hif
  rintro j ⟨hj, heq⟩
  repeat' (first | refine Ctl.h ?_ | ((with_reducible intro hif); first | (focus (cases hif; done)) | ((try simp only [JH] at hif); try (exfalso; omega))) | ((with_reducible first | apply J22 zx_ za_ | apply J23 fol zx_ za_ | apply J24); (·rfl); (· (simp only [push_cast, ↓JP, Nat.reduceAdd, Nat.reduceEqDiff, Nat.reduceLT, Nat.reduceMul, Nat.reduceLeDiff, reduceCtorEq, reduceIte, zo_, zo_, inN]; rfl)); (try kernel_rfl); try exact k17_) | fail)
  ·have hne : xs ≠ ys := by rintro rfl; simp at hif
   apply At.endsRet za_ (fn := Try.f61) (rs := [.tmp 4]) Anc.refl hro (lb_ rfl) rfl
   ·exact k3_
   ·exact k4_
   ·exact k5_
   ·rfl
   ·exact k6_
   ·exact k7_
   ·rw [eqL_false hne]; exact fun β => rfl
   ·exact k6_
  ·have hq : xs.getD j 0 = ys.getD j 0 := hif
   refine At.next (j + 1) ?_ ?_ ?_ rfl ?_ ?_ rfl
   ·exact k9_
   ·exact k8_
   ·exact k5_
   ·exact k6_
   ·exact k6_
  ·have hjn : j = xs.length := by omega
   subst hjn
   have he : xs = ys := ext_getD 0 hlen heq
   apply At.endsRet za_ (fn := Try.f61) (rs := [.tmp 4]) Anc.refl hro (lb_ rfl) rfl
   ·exact k3_
   ·exact k4_
   ·exact k5_
   ·rfl
   ·exact k6_
   ·exact k7_
   ·rw [eqL_true he]; exact fun β => rfl
   ·exact k6_
def sEqI64 : yp_ := fun args h m => match args with
 | [v1, v2] => match y6_ h 1 (.tup []) v1, y6_ h 1 (.tup []) v2 with
  | some (c1, n1, f1, r1), some (c2, n2, f2, r2) => some (c1 ∧ c2 ∧ (∀ q, q < n1 → isI .i64 (f1 q) = true) ∧ (∀ q, q < n2 → isI .i64 (f2 q) = true) ∧ ((ls iOf n1 f1).length ≤ 281474976710656), .bool (eqL (ls iOf n1 f1) (ls iOf n2 f2)), r1 ++ r2, [])
  | _, _ => none
 | _ => none
theorem sEqI64_ok : zj_ Try.prog 61 sEqI64 := by
 refine ⟨zi_ (by kernel_rfl), fun args h m c v rd wr hs hm hc w0 M β h' w R hrd hwr hst => ?_⟩
 unfold sEqI64 at hs
 split at hs
 ·rename_i v1 v2
  split at hs
  ·rename_i c1 n1 f1 r1 c2 n2 f2 r2 a1 a2
   simp only [Option.some.injEq, Prod.mk.injEq] at hs
   obtain ⟨rfl, rfl, rfl, rfl⟩ := hs
   obtain ⟨k1, k2, g1, g2, y1⟩ := hc
   obtain ⟨A1, p1, d1, e1, t1⟩ := zg_ R a1 k1 (fun i hi => hrd i (List.mem_append_left _ hi)) (by omega)
   obtain ⟨A2, p2, d2, e2, t2⟩ := zg_ R a2 k2 (fun i hi => hrd i (List.mem_append_right _ hi)) (by omega)
   refine yl_ (views := [⟨1, (ls iOf n1 f1).length, zo_ (ls iOf n1 f1), A1, p1⟩, ⟨1, (ls iOf n2 f2).length, zo_ (ls iOf n2 f2), A2, p2⟩]) (eqI64_lit (ls iOf n1 f1) (ls iOf n2 f2) p1 p2 y1) ?_ R hm hwr ?_ ?_ ?_
   ·exact d28_
   ·exact d26_
   ·exact k6_
   ·exact k6_
  ·cases hs
 ·cases hs
end Go.Proofs.Ytmljmabbopkpiaa.Vm
end
section
namespace Go.Proofs.Ytmljmabbopkpiaa.Vm
open Go.RowKit
attribute [local push_cast] prS zm_ zo_ nav_ins xe_ xd_ xc_ xb_ xa_ nav_snd y9_ y8_ y7_ zu_ z7_ yf_ z5_ ya_ z9_ iOf
def prP2 (h : HM) (i : Nat) : Option (Nat × List Ins × Prop) := match h i with
 | .ro (.arr n 5 f) => some (n, ls zt_ n f, ∀ q, q < n → isIns (f q) = true)
 | .own t (.arr n 5 f) false => some (n, ls zt_ n f, ∀ q, q < n → isIns (f q) = true)
 | _ => none
theorem prP2_len {h : HM} {i n : Nat} {P : List Ins} {ok : Prop} (hp : prP2 h i = some (n, P, ok)) : n = P.length := by
 unfold prP2 at hp
 split at hp
 ·simp only [Option.some.injEq, Prod.mk.injEq] at hp
  obtain ⟨rfl, rfl, rfl⟩ := hp
  rw [zc_]
 ·simp only [Option.some.injEq, Prod.mk.injEq] at hp
  obtain ⟨rfl, rfl, rfl⟩ := hp
  rw [zc_]
 ·cases hp
theorem bun_pr2 {ρ : Nat → Nat} {h h' : HM} {i n : Nat} {P : List Ins} {ok : Prop} (hp : prP2 h i = some (n, P, ok)) (hok : ok) (ei : h' i = h i) : Bun1 ρ (h' i) (prR P) := by
 unfold prP2 at hp
 split at hp
 ·rename_i n f hi
  simp only [Option.some.injEq, Prod.mk.injEq] at hp
  obtain ⟨rfl, rfl, rfl⟩ := hp
  refine Fit.ro (u := .arr n 5 f) (by rw [ei, hi]; rfl) (fun β => ?_) (fun n1 k1 f1 e => by
   simp only [SV.ren] at e
   injection e with e1 e2 e3
   rw [zc_] at e1
   subst e1 e2
   exact ⟨_, rfl⟩)
  simp only [SV.ren, prS_ren, zc_]
  refine arrCl fun q hq => ?_
  unfold prS
  rw [isIns_cl (hok q hq), ls_getD hq, isIns_cl (zu_ _), z7_]
 ·rename_i t n f hi
  simp only [Option.some.injEq, Prod.mk.injEq] at hp
  obtain ⟨rfl, rfl, rfl⟩ := hp
  refine Fit.ro (u := .arr n 5 f) (by rw [ei, hi]; rfl) (fun β => ?_) (fun n1 k1 f1 e => by
   simp only [SV.ren] at e
   injection e with e1 e2 e3
   rw [zc_] at e1
   subst e1 e2
   exact ⟨_, rfl⟩)
  simp only [SV.ren, prS_ren, zc_]
  refine arrCl fun q hq => ?_
  unfold prS
  rw [isIns_cl (hok q hq), ls_getD hq, isIns_cl (zu_ _), z7_]
 ·cases hp
def pS2 : yp_ := fun args h m => match args with
 | [.ptr g [], .sl z i [] 5 0 n (some p)] => match macP h g, prP2 h i with
  | some (s, v, x, c, k, ok), some (n', P, ok2) => bif Nat.beq n n' && nodupN [0, g, c, k, z, i] then
    some ((ok ∧ ok2) ∧ PG P ∧ VOk v ∧ SG P s, .int .i64 (stepE P v s), [g, c, k, z, i], [(g, mB (yw_ P v s) v (stepX P s x) c m), (c, cB (yw_ P v s)), (k, .gone), (m, sB (yw_ P v s))]) else none
  | _, _ => none
 | _ => none
theorem step2_lit (P : List Ins) (s : Sta) (v : Evi) (x : Ins) (p : Nat) (hP : PG P) (V : VOk v) (hS : SG P s) : zp_ Try.prog 76 [.ptr 1 [], .sl 4 5 [] 5 0 P.length (some p)] [.gone, mB s v x 2 3, cB s, sB s, .gone, prR P] (.int .i64 (stepE P v s))
  [.gone, mB (yw_ P v s) v (stepX P s x) 2 6, cB (yw_ P v s), .gone, .gone, .gone, sB (yw_ P v s)] := by
 have R := hS.ri hP
 have S := hS.sok hP
 have a0 := hS.a0
 have a1 := hS.a1
 have hlt : s.at_.toNat < P.length := by omega
 have hl := hP.len
 unfold insAt at R
 obtain ⟨at0, en, rg, ce, dr, se⟩ := s
 dsimp only at a0 a1 hlt R
 cases en
 ·have e1 : stepE P v ⟨at0, false, rg, ce, dr, se⟩ = doE ⟨at0, false, rg, ce, dr, se⟩ v (P.getD at0.toNat ⟨0, 0, 0, 0, 0⟩) := rfl
  have e2 : yw_ P v ⟨at0, false, rg, ce, dr, se⟩ = doS ⟨at0, false, rg, ce, dr, se⟩ v (P.getD at0.toNat ⟨0, 0, 0, 0, 0⟩) := rfl
  have e3 : stepX P ⟨at0, false, rg, ce, dr, se⟩ x = P.getD at0.toNat ⟨0, 0, 0, 0, 0⟩ := rfl
  rw [e1, e2, e3]
  refine zf_ (fn := Try.f76) 6 23 0 rfl rfl rfl rfl rfl (by simp only [ze_, zb_, hp, zo_, prS, yo_, zm_, sndS, stS, evS, macS, mB, cB, sB, sr, csl, ssl, ym_, nilS, HB.stable]; simp [HB.born, mB, cB, sB, prR]) rfl fun w0 M E hro => ?_
  repeat' (first | refine Ctl.h ?_ | ((with_reducible intro hif); first | (focus (cases hif; done)) | ((try simp only [JH] at hif); try (exfalso; omega))) | ((with_reducible first | apply J22 cSt_ok za_ | apply J23 fol cSt_ok za_ | apply J24); (·rfl); (· exact k101_); (try kernel_rfl); try exact k26_) | fail)
  apply At.endsPick [0, 1, 2, 3, 4, 5, 6] za_ (fn := Try.f76) (rs := [.tmp 4]) Anc.refl hro (lb_ rfl) rfl
  ·exact yq_
  ·exact k14_
  ·rfl
  ·rfl
  ·rfl
  ·exact k30_
  ·rfl
  ·exact k100_
  ·exact k7_
  ·exact fun β => rfl
  ·exact k100_
 ·have e1 : stepE P v ⟨at0, true, rg, ce, dr, se⟩ = 183 := rfl
  have e2 : yw_ P v ⟨at0, true, rg, ce, dr, se⟩ = ⟨at0, true, rg, ce, dr, se⟩ := rfl
  have e3 : stepX P ⟨at0, true, rg, ce, dr, se⟩ x = x := rfl
  rw [e1, e2, e3]
  refine zf_ (fn := Try.f76) 6 23 0 rfl rfl rfl rfl rfl (by simp only [ze_, zb_, hp, zo_, prS, yo_, zm_, sndS, stS, evS, macS, mB, cB, sB, sr, csl, ssl, ym_, nilS, HB.stable]; simp [HB.born, mB, cB, sB, prR]) rfl fun w0 M E hro => ?_
  repeat' (first | refine Ctl.h ?_ | ((with_reducible intro hif); first | (focus (cases hif; done)) | ((try simp only [JH] at hif); try (exfalso; omega))) | ((with_reducible first | apply J22 cSt_ok za_ | apply J23 fol cSt_ok za_ | apply J24); (·rfl); (· exact k101_); (try kernel_rfl); try exact k26_) | fail)
  apply At.endsPick [0, 1, 2, 3, 4, 5, 3] za_ (fn := Try.f76) (rs := [.tmp 4]) Anc.refl hro (lb_ rfl) rfl
  ·exact yq_
  ·exact k14_
  ·rfl
  ·rfl
  ·rfl
  ·exact k30_
  ·rfl
  ·exact k100_
  ·exact k7_
  ·exact fun β => rfl
  ·exact k100_
theorem pS2_ok : zj_ Try.prog 76 pS2 := by
 refine ⟨zi_ (by kernel_rfl), fun args h m c v rd wr hs hm hc w0 M β h' w R hrd hwr hst => ?_⟩
 unfold pS2 at hs
 split at hs
 ·rename_i g z i n p
  split at hs
  ·rename_i s v x c k ok n' P ok2 hmp hpp
   obtain ⟨hb, hs⟩ := zl_ hs
   simp only [Option.some.injEq, Prod.mk.injEq] at hs
   obtain ⟨rfl, rfl, rfl, rfl⟩ := hs
   simp only [Bool.and_eq_true] at hb
   obtain ⟨hnn, hnd⟩ := hb
   have hnn := Nat.eq_of_beq_eq_true hnn
   subst hnn
   have hnl := prP2_len hpp
   obtain ⟨⟨hok, hok2⟩, hP, hV, hS⟩ := hc
   have eg := hrd g (by simp)
   have ec := hrd c (by simp)
   have ek := hrd k (by simp)
   have ei := hrd i (by simp)
   have hz : (h' z).born = true := by simp only [ze_, zb_] at hst; exact hst.2.1.1
   exact bun_ok (h := h) (m := m) [0, g, c, k, z, i] (step2_lit P s v x p hP hV hS) R rfl (by simp) rfl rfl hnd
    ⟨Fit.gone (by rw [R.nil0]; rfl), bun_mac hmp hok eg rfl rfl, bun_cel hmp hok ec, bun_snd hmp hok ek, Fit.gone hz, bun_pr2 hpp hok2 ei, trivial⟩ hm
    (fun p hp => by
     simp only [newB, List.drop, List.length_cons, List.length_nil, List.mem_cons, List.not_mem_nil, or_false] at hp
     subst hp
     exact hwr (m, sB (yw_ P v s)) (by simp)) (by simp) rfl
    ⟨trivial, mB_st rfl rfl, cB_st, sB_st, trivial, prR_st, trivial⟩ ⟨rfl, ⟨rfl, rfl⟩, trivial⟩
    ⟨trivial, mB_st rfl rfl, cB_st, trivial, trivial, prR_st, sB_st, trivial⟩ trivial (by rw [hnl]; rfl) rfl (by
     have e : rhoL [0, g, c, k, z, i] m 6 = m := by simp [rhoL]
     show [(g, (mB _ v _ 2 6).ren _), (c, (cB _).ren _), (k, HB.gone.ren _), (m, (sB _).ren _)] = _
     rw [mB_ren, cB_ren, sB_ren, e]; rfl)
  ·cases hs
 ·cases hs
def goE (P : List Ins) (v : Evi) (s : Sta) : Int := if y2_ P v s = 0 then stepE P v s else y2_ P v s
def cDoG : FuncId → Option yp_ := yy_ [(75, sOpenG), (76, pS2)]
theorem cDoG_ok : ∀ f S, cDoG f = some S → zj_ Try.prog f S := zq_ ⟨sOpenG_ok, pS2_ok, trivial⟩
def cDoB : FuncId → Option yp_ := yy_ [(75, sOpenB), (76, pS2)]
theorem cDoB_ok : ∀ f S, cDoB f = some S → zj_ Try.prog f S := zq_ ⟨sOpenB_ok, pS2_ok, trivial⟩
theorem do_good (P : List Ins) (v : Evi) (s : Sta) (p1 p2 p3 : Nat) (hok : ∀ x ∈ P, x.ok) (hn : P.length ≤ 1000000) (hc : s.cells.length ≤ 1000000) (hs : s.sends.length ≤ 1000000) (hE : goE P v s = 0) : zp_ Try.prog 31 [.sl 1 2 [] 5 0 P.length (some p1), .agg [.int .u64 v.seed, .int .i64 v.process, .int .i64 v.ports, .int .i64 v.look, .int .i64 v.now], .agg [.int .i64 s.at_, .bool s.ended, .arr 8 1 (fun q => .int .i64 (s.regs q)), .sl 3 4 [] 1 0 s.cells.length (some p2), .int .i64 s.draws, .sl 5 6 [] 3 0 s.sends.length (some p3)]]
  [.gone, .gone, .ro (.arr P.length 5 (prS P)), .gone, .ro (.arr s.cells.length 1 (zo_ s.cells)), .gone, .ro (.arr s.sends.length 3 (zm_ s.sends))] (.tup [stS (yw_ P v s) 7 8, .int .i64 0]) [.gone, .gone, .gone, .gone, .gone, .gone, .gone, cB (yw_ P v s), sB (yw_ P v s)] := by
 have hn2 : P.length ≤ 281474976710656 := by omega
 have hO : y2_ P v s = 0 := by
  unfold goE at hE
  split at hE
  ·assumption
  ·exact hE
 have hS : stepE P v s = 0 := by unfold goE at hE; rwa [if_pos hO] at hE
 have q := openE_zero hO
 have hPG : PG P := ⟨hok, q.1⟩
 have hV := VOk.of q.2.1
 have hSG := SG.of q.2.2 hs
 refine zf_ (fn := Try.f31) 7 30 0 rfl rfl rfl rfl rfl u16_ rfl fun w0 M E hro => ?_
 repeat' (first | refine Ctl.h ?_ | ((with_reducible intro hif); first | (focus (cases hif; done)) | ((try simp only [JH] at hif); try (exfalso; omega))) | ((with_reducible first | apply J22 cDoG_ok za_ | apply J23 fol cDoG_ok za_ | apply J24); (·rfl); (· (simp only [push_cast, ↓JP, Nat.reduceAdd, Nat.reduceEqDiff, Nat.reduceLT, Nat.reduceMul, Nat.reduceLeDiff, reduceCtorEq, reduceIte, ↓JK, cDoG, sOpenG, JM, JE, nodupN, memN, macP, prP2, pS2, inR, inN, ya_, z9_, iOf, hO, hS]; rfl)); (try kernel_rfl); try exact k102_) | fail)
 apply At.endsPick [0, 1, 2, 3, 4, 5, 6, 11, 13] za_ (fn := Try.f31) (rs := [.cell 6 53, .tmp 7]) Anc.refl hro (lb_ rfl) rfl
 ·exact yq_
 ·exact k14_
 ·rfl
 ·rfl
 ·rfl
 ·exact k30_
 ·rfl
 ·exact k100_
 ·exact k7_
 ·exact fun β => rfl
 ·exact k100_
theorem do_bad (P : List Ins) (v : Evi) (s : Sta) (p1 p2 p3 : Nat) (hok : ∀ x ∈ P, x.ok) (hn : P.length ≤ 1000000) (hc : s.cells.length ≤ 1000000) (hs : s.sends.length ≤ 1000000) (hE : goE P v s ≠ 0) : zp_ Try.prog 31 [.sl 1 2 [] 5 0 P.length (some p1), .agg [.int .u64 v.seed, .int .i64 v.process, .int .i64 v.ports, .int .i64 v.look, .int .i64 v.now], .agg [.int .i64 s.at_, .bool s.ended, .arr 8 1 (fun q => .int .i64 (s.regs q)), .sl 3 4 [] 1 0 s.cells.length (some p2), .int .i64 s.draws, .sl 5 6 [] 3 0 s.sends.length (some p3)]]
  [.gone, .gone, .ro (.arr P.length 5 (prS P)), .gone, .ro (.arr s.cells.length 1 (zo_ s.cells)), .gone, .ro (.arr s.sends.length 3 (zm_ s.sends))] (.tup [ym_, .int .i64 (goE P v s)]) [.gone] := by
 have hn2 : P.length ≤ 281474976710656 := by omega
 simp only [ym_, nilS]
 by_cases hO : y2_ P v s = 0
 ·rw [show goE P v s = stepE P v s from if_pos hO] at hE ⊢
  have q := openE_zero hO
  have hPG : PG P := ⟨hok, q.1⟩
  have hV := VOk.of q.2.1
  have hSG := SG.of q.2.2 hs
  refine zf_ (fn := Try.f31) 7 30 0 rfl rfl rfl rfl rfl u16_ rfl fun w0 M E hro => ?_
  repeat' (first | refine Ctl.h ?_ | ((with_reducible intro hif); first | (focus (cases hif; done)) | ((try simp only [JH] at hif); try (exfalso; omega))) | ((with_reducible first | apply J22 cDoG_ok za_ | apply J23 fol cDoG_ok za_ | apply J24); (·rfl); (· (simp only [push_cast, ↓JP, Nat.reduceAdd, Nat.reduceEqDiff, Nat.reduceLT, Nat.reduceMul, Nat.reduceLeDiff, reduceCtorEq, reduceIte, ↓JK, cDoG, sOpenG, JM, JE, nodupN, memN, macP, prP2, pS2, inR, inN, ya_, z9_, iOf, hO, hE]; rfl)); (try kernel_rfl); try exact k102_) | fail)
  apply At.endsRet za_ (fn := Try.f31) (rs := [.cell 6 53, .tmp 7]) Anc.refl hro (lb_ rfl) rfl
  ·exact yq_
  ·exact k4_
  ·exact k5_
  ·rfl
  ·exact k100_
  ·exact k7_
  ·exact fun β => rfl
  ·exact k100_
 ·rw [show goE P v s = y2_ P v s from if_neg hO]
  refine zf_ (fn := Try.f31) 7 30 0 rfl rfl rfl rfl rfl u16_ rfl fun w0 M E hro => ?_
  repeat' (first | refine Ctl.h ?_ | ((with_reducible intro hif); first | (focus (cases hif; done)) | ((try simp only [JH] at hif); try (exfalso; omega))) | ((with_reducible first | apply J22 cDoB_ok za_ | apply J23 fol cDoB_ok za_ | apply J24); (·rfl); (· (simp only [push_cast, ↓JP, Nat.reduceAdd, Nat.reduceEqDiff, Nat.reduceLT, Nat.reduceMul, Nat.reduceLeDiff, reduceCtorEq, reduceIte, ↓JK, cDoB, sOpenB, JM, JE, nodupN, memN, macP, prP2, pS2, inR, inN, ya_, z9_, iOf, hO]; rfl)); (try kernel_rfl); (try (focus (first | exact True.intro | ((try simp only [JE, zc_]); (repeat' (first | exact True.intro | exact hok | assumption | apply And.intro | rfl | omega | decide | intro _)); done) | ((try simp only [JS, implies_true, forall_const, yc_, z6_, kndOf, inR, inN]); (repeat' (first | assumption | exact True.intro | omega | apply And.intro)); done))))) | fail)
  apply At.endsRet za_ (fn := Try.f31) (rs := [.cell 6 53, .tmp 7]) Anc.refl hro (lb_ rfl) rfl
  ·exact yq_
  ·exact k4_
  ·exact k5_
  ·rfl
  ·exact k100_
  ·exact k7_
  ·exact fun β => rfl
  ·exact k100_
def sIDoG : yp_ := fun args h m => match args with
 | [v1, .agg [v2, v3, v4, v5, v6], .agg [v7, .bool v8, .arr 8 1 v9, v10, v11, v12]] => match y6_ h 5 (.tup []) v1, y6_ h 1 (.tup []) v10, y6_ h 3 (.tup []) v12 with
  | some (c1, n1, f1, r1), some (c10, n10, f10, r10), some (c12, n12, f12, r12) => bif isI .u64 v2 && isI .i64 v3 && isI .i64 v4 && isI .i64 v5 && isI .i64 v6 && isI .i64 v7 && isI .i64 v11 then some (c1 ∧ c10 ∧ c12 ∧ (∀ q, q < n1 → isIns (f1 q) = true) ∧ (∀ q, q < n10 → isI .i64 (f10 q) = true) ∧ (∀ q, q < n12 → isSnd (f12 q) = true) ∧ (∀ q, q < 8 → isI .i64 (v9 q) = true) ∧ ((∀ x ∈ (ls zt_ n1 f1), x.ok)) ∧ (n1 ≤ 1000000) ∧ (n10 ≤ 1000000) ∧ (n12 ≤ 1000000) ∧ (goE (ls zt_ n1 f1) ⟨(iOf v2), (iOf v3), (iOf v4), (iOf v5), (iOf v6)⟩ ⟨(iOf v7), v8, (fun q => iOf (v9 q)), (ls iOf n10 f10), (iOf v11), (ls zn_ n12 f12)⟩ = 0), .tup [stS (yw_ (ls zt_ n1 f1) ⟨(iOf v2), (iOf v3), (iOf v4), (iOf v5), (iOf v6)⟩ ⟨(iOf v7), v8, (fun q => iOf (v9 q)), (ls iOf n10 f10), (iOf v11), (ls zn_ n12 f12)⟩) m (m + 1), .int .i64 0], r1 ++ r10 ++ r12, [(m, cB (yw_ (ls zt_ n1 f1) ⟨(iOf v2), (iOf v3), (iOf v4), (iOf v5), (iOf v6)⟩ ⟨(iOf v7), v8, (fun q => iOf (v9 q)), (ls iOf n10 f10), (iOf v11), (ls zn_ n12 f12)⟩)), (m + 1, sB (yw_ (ls zt_ n1 f1) ⟨(iOf v2), (iOf v3), (iOf v4), (iOf v5), (iOf v6)⟩ ⟨(iOf v7), v8, (fun q => iOf (v9 q)), (ls iOf n10 f10), (iOf v11), (ls zn_ n12 f12)⟩))]) else none
  | _, _, _ => none
 | _ => none
theorem sIDoG_ok : zj_ Try.prog 31 sIDoG := by
 refine ⟨zi_ (by kernel_rfl), fun args h m c v rd wr hs hm hc w0 M β h' w R hrd hwr hst => ?_⟩
 unfold sIDoG at hs
 split at hs
 ·rename_i v1 v2 v3 v4 v5 v6 v7 v8 v9 v10 v11 v12
  split at hs
  ·rename_i c1 n1 f1 r1 c10 n10 f10 r10 c12 n12 f12 r12 a1 a10 a12
   obtain ⟨hb, hs⟩ := zl_ hs
   simp only [Option.some.injEq, Prod.mk.injEq] at hs
   obtain ⟨rfl, rfl, rfl, rfl⟩ := hs
   simp only [Bool.and_eq_true] at hb
   obtain ⟨⟨⟨⟨⟨⟨b2, b3⟩, b4⟩, b5⟩, b6⟩, b7⟩, b11⟩ := hb
   obtain ⟨k1, k10, k12, g1, g10, g12, g9, y1, y2, y3, y4, y5⟩ := hc
   obtain ⟨A1, p1, d1, e1, t1⟩ := zg_ R a1 k1 (fun i hi => hrd i (List.mem_append_left _ (List.mem_append_left _ hi))) (by omega)
   obtain ⟨A10, p10, d10, e10, t10⟩ := zg_ R a10 k10 (fun i hi => hrd i (List.mem_append_left _ (List.mem_append_right _ hi))) (by omega)
   obtain ⟨A12, p12, d12, e12, t12⟩ := zg_ R a12 k12 (fun i hi => hrd i (List.mem_append_right _ hi)) (by omega)
   refine yl_ (views := [⟨5, (ls zt_ n1 f1).length, prS (ls zt_ n1 f1), A1, p1⟩, ⟨1, (ls iOf n10 f10).length, zo_ (ls iOf n10 f10), A10, p10⟩, ⟨3, (ls zn_ n12 f12).length, zm_ (ls zn_ n12 f12), A12, p12⟩]) (do_good (ls zt_ n1 f1) ⟨(iOf v2), (iOf v3), (iOf v4), (iOf v5), (iOf v6)⟩ ⟨(iOf v7), v8, (fun q => iOf (v9 q)), (ls iOf n10 f10), (iOf v11), (ls zn_ n12 f12)⟩ p1 p10 p12 y1 (by rw [zc_]; exact y2) u15_ u17_ y5) ?_ R hm hwr ?_ ?_ ?_
   ·exact d38_
   ·exact d44_
   ·exact k100_
   ·exact k100_
  ·cases hs
 ·cases hs
def sIDoB : yp_ := fun args h m => match args with
 | [v1, .agg [v2, v3, v4, v5, v6], .agg [v7, .bool v8, .arr 8 1 v9, v10, v11, v12]] => match y6_ h 5 (.tup []) v1, y6_ h 1 (.tup []) v10, y6_ h 3 (.tup []) v12 with
  | some (c1, n1, f1, r1), some (c10, n10, f10, r10), some (c12, n12, f12, r12) => bif isI .u64 v2 && isI .i64 v3 && isI .i64 v4 && isI .i64 v5 && isI .i64 v6 && isI .i64 v7 && isI .i64 v11 then some (c1 ∧ c10 ∧ c12 ∧ (∀ q, q < n1 → isIns (f1 q) = true) ∧ (∀ q, q < n10 → isI .i64 (f10 q) = true) ∧ (∀ q, q < n12 → isSnd (f12 q) = true) ∧ (∀ q, q < 8 → isI .i64 (v9 q) = true) ∧ ((∀ x ∈ (ls zt_ n1 f1), x.ok)) ∧ (n1 ≤ 1000000) ∧ (n10 ≤ 1000000) ∧ (n12 ≤ 1000000) ∧ (goE (ls zt_ n1 f1) ⟨(iOf v2), (iOf v3), (iOf v4), (iOf v5), (iOf v6)⟩ ⟨(iOf v7), v8, (fun q => iOf (v9 q)), (ls iOf n10 f10), (iOf v11), (ls zn_ n12 f12)⟩ ≠ 0), .tup [ym_, .int .i64 (goE (ls zt_ n1 f1) ⟨(iOf v2), (iOf v3), (iOf v4), (iOf v5), (iOf v6)⟩ ⟨(iOf v7), v8, (fun q => iOf (v9 q)), (ls iOf n10 f10), (iOf v11), (ls zn_ n12 f12)⟩)], r1 ++ r10 ++ r12, []) else none
  | _, _, _ => none
 | _ => none
theorem sIDoB_ok : zj_ Try.prog 31 sIDoB := by
 refine ⟨zi_ (by kernel_rfl), fun args h m c v rd wr hs hm hc w0 M β h' w R hrd hwr hst => ?_⟩
 unfold sIDoB at hs
 split at hs
 ·rename_i v1 v2 v3 v4 v5 v6 v7 v8 v9 v10 v11 v12
  split at hs
  ·rename_i c1 n1 f1 r1 c10 n10 f10 r10 c12 n12 f12 r12 a1 a10 a12
   obtain ⟨hb, hs⟩ := zl_ hs
   simp only [Option.some.injEq, Prod.mk.injEq] at hs
   obtain ⟨rfl, rfl, rfl, rfl⟩ := hs
   simp only [Bool.and_eq_true] at hb
   obtain ⟨⟨⟨⟨⟨⟨b2, b3⟩, b4⟩, b5⟩, b6⟩, b7⟩, b11⟩ := hb
   obtain ⟨k1, k10, k12, g1, g10, g12, g9, y1, y2, y3, y4, y5⟩ := hc
   obtain ⟨A1, p1, d1, e1, t1⟩ := zg_ R a1 k1 (fun i hi => hrd i (List.mem_append_left _ (List.mem_append_left _ hi))) (by omega)
   obtain ⟨A10, p10, d10, e10, t10⟩ := zg_ R a10 k10 (fun i hi => hrd i (List.mem_append_left _ (List.mem_append_right _ hi))) (by omega)
   obtain ⟨A12, p12, d12, e12, t12⟩ := zg_ R a12 k12 (fun i hi => hrd i (List.mem_append_right _ hi)) (by omega)
   refine yl_ (views := [⟨5, (ls zt_ n1 f1).length, prS (ls zt_ n1 f1), A1, p1⟩, ⟨1, (ls iOf n10 f10).length, zo_ (ls iOf n10 f10), A10, p10⟩, ⟨3, (ls zn_ n12 f12).length, zm_ (ls zn_ n12 f12), A12, p12⟩]) (do_bad (ls zt_ n1 f1) ⟨(iOf v2), (iOf v3), (iOf v4), (iOf v5), (iOf v6)⟩ ⟨(iOf v7), v8, (fun q => iOf (v9 q)), (ls iOf n10 f10), (iOf v11), (ls zn_ n12 f12)⟩ p1 p10 p12 y1 (by rw [zc_]; exact y2) u15_ u17_ y5) ?_ R hm hwr ?_ ?_ ?_
   ·exact d38_
   ·exact d44_
   ·exact k100_
   ·exact k100_
  ·cases hs
 ·cases hs
end Go.Proofs.Ytmljmabbopkpiaa.Vm
end

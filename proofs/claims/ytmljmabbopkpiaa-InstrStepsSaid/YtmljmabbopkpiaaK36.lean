import Derived.Test.YtmljmabbopkpiaaK1
import Derived.Test.YtmljmabbopkpiaaK32
import Derived.Test.YtmljmabbopkpiaaK35
set_option linter.unusedSimpArgs false
set_option linter.unusedVariables false
set_option maxRecDepth 100000
set_option maxHeartbeats 4000000
section
namespace Go.Proofs.Ytmljmabbopkpiaa.Vm
open Go.RowKit
attribute [local push_cast] prS sndsS i64S nav_ins xa_ y9_ y8_ y7_ y6_ nav_snd y5_ y4_ y3_ zq_ z1_ ya_ z5_ zx_ zw_ iOf
def prP2 (h : HM) (i : Nat) : Option (Nat × List Ins × Prop) := match h i with
 | .ro (.arr n 5 f) => some (n, ls zr_ n f, ∀ q, q < n → isIns (f q) = true)
 | .own t (.arr n 5 f) false => some (n, ls zr_ n f, ∀ q, q < n → isIns (f q) = true)
 | _ => none
theorem prP2_len {h : HM} {i n : Nat} {P : List Ins} {ok : Prop} (hp : prP2 h i = some (n, P, ok)) : n = P.length := by
 unfold prP2 at hp
 split at hp
 ·simp only [Option.some.injEq, Prod.mk.injEq] at hp
  obtain ⟨rfl, rfl, rfl⟩ := hp
  rw [zc_]
 ·simp only [Option.some.injEq, Prod.mk.injEq] at hp
  obtain ⟨rfl, rfl, rfl⟩ := hp
  rw [zc_]
 ·cases hp
theorem bun_pr2 {ρ : Nat → Nat} {h h' : HM} {i n : Nat} {P : List Ins} {ok : Prop} (hp : prP2 h i = some (n, P, ok)) (hok : ok) (ei : h' i = h i) : Bun1 ρ (h' i) (prR P) := by
 unfold prP2 at hp
 split at hp
 ·rename_i n f hi
  simp only [Option.some.injEq, Prod.mk.injEq] at hp
  obtain ⟨rfl, rfl, rfl⟩ := hp
  refine Fit.ro (u := .arr n 5 f) (by rw [ei, hi]; rfl) (fun β => ?_) (fun n1 k1 f1 e => by
   simp only [SV.ren] at e
   injection e with e1 e2 e3
   rw [zc_] at e1
   subst e1 e2
   exact ⟨_, rfl⟩)
  simp only [SV.ren, prS_ren, zc_]
  refine arrCl fun q hq => ?_
  unfold prS
  rw [isIns_cl (hok q hq), ls_getD hq, isIns_cl (zq_ _), z1_]
 ·rename_i t n f hi
  simp only [Option.some.injEq, Prod.mk.injEq] at hp
  obtain ⟨rfl, rfl, rfl⟩ := hp
  refine Fit.ro (u := .arr n 5 f) (by rw [ei, hi]; rfl) (fun β => ?_) (fun n1 k1 f1 e => by
   simp only [SV.ren] at e
   injection e with e1 e2 e3
   rw [zc_] at e1
   subst e1 e2
   exact ⟨_, rfl⟩)
  simp only [SV.ren, prS_ren, zc_]
  refine arrCl fun q hq => ?_
  unfold prS
  rw [isIns_cl (hok q hq), ls_getD hq, isIns_cl (zq_ _), z1_]
 ·cases hp
def pS2 : yp_ := fun args h m => match args with
 | [.ptr g [], .sl z i [] 5 0 n (some p)] => match macP h g, prP2 h i with
  | some (s, v, x, c, k, ok), some (n', P, ok2) => bif Nat.beq n n' && nodupN [0, g, c, k, z, i] then
    some ((ok ∧ ok2) ∧ PG P ∧ VOk v ∧ SG P s, .int .i64 (stepE P v s), [g, c, k, z, i], [(g, mB (yl_ P v s) v (stepX P s x) c m), (c, cB (yl_ P v s)), (k, .gone), (m, sB (yl_ P v s))]) else none
  | _, _ => none
 | _ => none
theorem step2_lit (P : List Ins) (s : Sta) (v : Evi) (x : Ins) (p : Nat) (hP : PG P) (V : VOk v) (hS : SG P s) : zo_ Try.prog 76 [.ptr 1 [], .sl 4 5 [] 5 0 P.length (some p)] [.gone, mB s v x 2 3, cB s, sB s, .gone, prR P] (.int .i64 (stepE P v s))
  [.gone, mB (yl_ P v s) v (stepX P s x) 2 6, cB (yl_ P v s), .gone, .gone, .gone, sB (yl_ P v s)] := by
 have R := hS.ri hP
 have S := hS.sok hP
 have a0 := hS.a0
 have a1 := hS.a1
 have hlt : s.at_.toNat < P.length := by omega
 have hl := hP.len
 unfold insAt at R
 obtain ⟨at0, en, rg, ce, dr, se⟩ := s
 dsimp only at a0 a1 hlt R
 cases en
 ·have e1 : stepE P v ⟨at0, false, rg, ce, dr, se⟩ = doE ⟨at0, false, rg, ce, dr, se⟩ v (P.getD at0.toNat ⟨0, 0, 0, 0, 0⟩) := rfl
  have e2 : yl_ P v ⟨at0, false, rg, ce, dr, se⟩ = doS ⟨at0, false, rg, ce, dr, se⟩ v (P.getD at0.toNat ⟨0, 0, 0, 0, 0⟩) := rfl
  have e3 : stepX P ⟨at0, false, rg, ce, dr, se⟩ x = P.getD at0.toNat ⟨0, 0, 0, 0, 0⟩ := rfl
  rw [e1, e2, e3]
  refine zf_ (fn := Try.f76) 6 23 0 rfl rfl rfl rfl rfl (by simp only [ze_, zb_, hp, i64S, prS, ym_, sndsS, sndS, stS, evS, macS, mB, cB, sB, sr, csl, ssl, yk_, nilS, HB.stable]; simp [HB.born, mB, cB, sB, prR]) rfl fun w0 M E hro => ?_
  repeat' (first | refine Ctl.h ?_ | ((with_reducible intro hif); first | (focus (cases hif; done)) | ((try simp only [JH] at hif); try (exfalso; omega))) | ((with_reducible first | apply J22 cSt_ok za_ | apply J23 fol cSt_ok za_ | apply J24); (·rfl); (· exact k87_); (try kernel_rfl); try exact k26_) | fail)
  apply At.endsPick [0, 1, 2, 3, 4, 5, 6] za_ (fn := Try.f76) (rs := [.tmp 4]) Anc.refl hro (lb_ rfl) rfl
  ·exact yo_
  ·exact k14_
  ·rfl
  ·rfl
  ·rfl
  ·exact k30_
  ·rfl
  ·exact k101_
  ·exact k7_
  ·exact fun β => rfl
  ·exact k101_
 ·have e1 : stepE P v ⟨at0, true, rg, ce, dr, se⟩ = 183 := rfl
  have e2 : yl_ P v ⟨at0, true, rg, ce, dr, se⟩ = ⟨at0, true, rg, ce, dr, se⟩ := rfl
  have e3 : stepX P ⟨at0, true, rg, ce, dr, se⟩ x = x := rfl
  rw [e1, e2, e3]
  refine zf_ (fn := Try.f76) 6 23 0 rfl rfl rfl rfl rfl (by simp only [ze_, zb_, hp, i64S, prS, ym_, sndsS, sndS, stS, evS, macS, mB, cB, sB, sr, csl, ssl, yk_, nilS, HB.stable]; simp [HB.born, mB, cB, sB, prR]) rfl fun w0 M E hro => ?_
  repeat' (first | refine Ctl.h ?_ | ((with_reducible intro hif); first | (focus (cases hif; done)) | ((try simp only [JH] at hif); try (exfalso; omega))) | ((with_reducible first | apply J22 cSt_ok za_ | apply J23 fol cSt_ok za_ | apply J24); (·rfl); (· exact k87_); (try kernel_rfl); try exact k26_) | fail)
  apply At.endsPick [0, 1, 2, 3, 4, 5, 3] za_ (fn := Try.f76) (rs := [.tmp 4]) Anc.refl hro (lb_ rfl) rfl
  ·exact yo_
  ·exact k14_
  ·rfl
  ·rfl
  ·rfl
  ·exact k30_
  ·rfl
  ·exact k101_
  ·exact k7_
  ·exact fun β => rfl
  ·exact k101_
theorem pS2_ok : zj_ Try.prog 76 pS2 := by
 refine ⟨zg_ (by kernel_rfl), fun args h m c v rd wr hs hm hc w0 M β h' w R hrd hwr hst => ?_⟩
 unfold pS2 at hs
 split at hs
 ·rename_i g z i n p
  split at hs
  ·rename_i s v x c k ok n' P ok2 hmp hpp
   obtain ⟨hb, hs⟩ := zk_ hs
   simp only [Option.some.injEq, Prod.mk.injEq] at hs
   obtain ⟨rfl, rfl, rfl, rfl⟩ := hs
   simp only [Bool.and_eq_true] at hb
   obtain ⟨hnn, hnd⟩ := hb
   have hnn := Nat.eq_of_beq_eq_true hnn
   subst hnn
   have hnl := prP2_len hpp
   obtain ⟨⟨hok, hok2⟩, hP, hV, hS⟩ := hc
   have eg := hrd g (by simp)
   have ec := hrd c (by simp)
   have ek := hrd k (by simp)
   have ei := hrd i (by simp)
   have hz : (h' z).born = true := by simp only [ze_, zb_] at hst; exact hst.2.1.1
   exact bun_ok (h := h) (m := m) [0, g, c, k, z, i] (step2_lit P s v x p hP hV hS) R rfl (by simp) rfl rfl hnd
    ⟨Fit.gone (by rw [R.nil0]; rfl), bun_mac hmp hok eg rfl rfl, bun_cel hmp hok ec, bun_snd hmp hok ek, Fit.gone hz, bun_pr2 hpp hok2 ei, trivial⟩ hm
    (fun p hp => by
     simp only [newB, List.drop, List.length_cons, List.length_nil, List.mem_cons, List.not_mem_nil, or_false] at hp
     subst hp
     exact hwr (m, sB (yl_ P v s)) (by simp)) (by simp) rfl
    ⟨trivial, mB_st rfl rfl, cB_st, sB_st, trivial, prR_st, trivial⟩ ⟨rfl, ⟨rfl, rfl⟩, trivial⟩
    ⟨trivial, mB_st rfl rfl, cB_st, trivial, trivial, prR_st, sB_st, trivial⟩ trivial (by rw [hnl]; rfl) rfl (by
     have e : rhoL [0, g, c, k, z, i] m 6 = m := by simp [rhoL]
     show [(g, (mB _ v _ 2 6).ren _), (c, (cB _).ren _), (k, HB.gone.ren _), (m, (sB _).ren _)] = _
     rw [mB_ren, cB_ren, sB_ren, e]; rfl)
  ·cases hs
 ·cases hs
def goE (P : List Ins) (v : Evi) (s : Sta) : Int := if yr_ P v s = 0 then stepE P v s else yr_ P v s
def cDoG : FuncId → Option yp_ := yx_ [(75, sOpenG), (76, pS2)]
theorem cDoG_ok : ∀ f S, cDoG f = some S → zj_ Try.prog f S := zn_ ⟨sOpenG_ok, pS2_ok, trivial⟩
def cDoB : FuncId → Option yp_ := yx_ [(75, sOpenB), (76, pS2)]
theorem cDoB_ok : ∀ f S, cDoB f = some S → zj_ Try.prog f S := zn_ ⟨sOpenB_ok, pS2_ok, trivial⟩
theorem do_good (P : List Ins) (v : Evi) (s : Sta) (p1 p2 p3 : Nat) (hok : ∀ x ∈ P, x.ok) (hn : P.length ≤ 1000000) (hc : s.cells.length ≤ 1000000) (hs : s.sends.length ≤ 1000000) (hE : goE P v s = 0) : zo_ Try.prog 31 [.sl 1 2 [] 5 0 P.length (some p1), .agg [.int .u64 v.seed, .int .i64 v.process, .int .i64 v.ports, .int .i64 v.look, .int .i64 v.now], .agg [.int .i64 s.at_, .bool s.ended, .arr 8 1 (fun q => .int .i64 (s.regs q)), .sl 3 4 [] 1 0 s.cells.length (some p2), .int .i64 s.draws, .sl 5 6 [] 3 0 s.sends.length (some p3)]]
  [.gone, .gone, .ro (.arr P.length 5 (prS P)), .gone, .ro (.arr s.cells.length 1 (i64S s.cells)), .gone, .ro (.arr s.sends.length 3 (sndsS s.sends))] (.tup [stS (yl_ P v s) 7 8, .int .i64 0]) [.gone, .gone, .gone, .gone, .gone, .gone, .gone, cB (yl_ P v s), sB (yl_ P v s)] := by
 have hn2 : P.length ≤ 281474976710656 := by omega
 have hO : yr_ P v s = 0 := by
  unfold goE at hE
  split at hE
  ·assumption
  ·exact hE
 have hS : stepE P v s = 0 := by unfold goE at hE; rwa [if_pos hO] at hE
 have q := openE_zero hO
 have hPG : PG P := ⟨hok, q.1⟩
 have hV := VOk.of q.2.1
 have hSG := SG.of q.2.2 hs
 refine zf_ (fn := Try.f31) 7 30 0 rfl rfl rfl rfl rfl u15_ rfl fun w0 M E hro => ?_
 repeat' (first | refine Ctl.h ?_ | ((with_reducible intro hif); first | (focus (cases hif; done)) | ((try simp only [JH] at hif); try (exfalso; omega))) | ((with_reducible first | apply J22 cDoG_ok za_ | apply J23 fol cDoG_ok za_ | apply J24); (·rfl); (· (simp only [push_cast, ↓JP, Nat.reduceAdd, Nat.reduceEqDiff, Nat.reduceLT, Nat.reduceMul, Nat.reduceLeDiff, reduceCtorEq, reduceIte, ↓JK, cDoG, sOpenG, JM, JE, nodupN, memN, macP, prP2, pS2, inR, inN, zx_, zw_, iOf, hO, hS]; rfl)); (try kernel_rfl); try exact k102_) | fail)
 apply At.endsPick [0, 1, 2, 3, 4, 5, 6, 11, 13] za_ (fn := Try.f31) (rs := [.cell 6 53, .tmp 7]) Anc.refl hro (lb_ rfl) rfl
 ·exact yo_
 ·exact k14_
 ·rfl
 ·rfl
 ·rfl
 ·exact k30_
 ·rfl
 ·exact k101_
 ·exact k7_
 ·exact fun β => rfl
 ·exact k101_
theorem do_bad (P : List Ins) (v : Evi) (s : Sta) (p1 p2 p3 : Nat) (hok : ∀ x ∈ P, x.ok) (hn : P.length ≤ 1000000) (hc : s.cells.length ≤ 1000000) (hs : s.sends.length ≤ 1000000) (hE : goE P v s ≠ 0) : zo_ Try.prog 31 [.sl 1 2 [] 5 0 P.length (some p1), .agg [.int .u64 v.seed, .int .i64 v.process, .int .i64 v.ports, .int .i64 v.look, .int .i64 v.now], .agg [.int .i64 s.at_, .bool s.ended, .arr 8 1 (fun q => .int .i64 (s.regs q)), .sl 3 4 [] 1 0 s.cells.length (some p2), .int .i64 s.draws, .sl 5 6 [] 3 0 s.sends.length (some p3)]]
  [.gone, .gone, .ro (.arr P.length 5 (prS P)), .gone, .ro (.arr s.cells.length 1 (i64S s.cells)), .gone, .ro (.arr s.sends.length 3 (sndsS s.sends))] (.tup [yk_, .int .i64 (goE P v s)]) [.gone] := by
 have hn2 : P.length ≤ 281474976710656 := by omega
 simp only [yk_, nilS]
 by_cases hO : yr_ P v s = 0
 ·rw [show goE P v s = stepE P v s from if_pos hO] at hE ⊢
  have q := openE_zero hO
  have hPG : PG P := ⟨hok, q.1⟩
  have hV := VOk.of q.2.1
  have hSG := SG.of q.2.2 hs
  refine zf_ (fn := Try.f31) 7 30 0 rfl rfl rfl rfl rfl u15_ rfl fun w0 M E hro => ?_
  repeat' (first | refine Ctl.h ?_ | ((with_reducible intro hif); first | (focus (cases hif; done)) | ((try simp only [JH] at hif); try (exfalso; omega))) | ((with_reducible first | apply J22 cDoG_ok za_ | apply J23 fol cDoG_ok za_ | apply J24); (·rfl); (· (simp only [push_cast, ↓JP, Nat.reduceAdd, Nat.reduceEqDiff, Nat.reduceLT, Nat.reduceMul, Nat.reduceLeDiff, reduceCtorEq, reduceIte, ↓JK, cDoG, sOpenG, JM, JE, nodupN, memN, macP, prP2, pS2, inR, inN, zx_, zw_, iOf, hO, hE]; rfl)); (try kernel_rfl); try exact k102_) | fail)
  apply At.endsRet za_ (fn := Try.f31) (rs := [.cell 6 53, .tmp 7]) Anc.refl hro (lb_ rfl) rfl
  ·exact yo_
  ·exact k4_
  ·exact k5_
  ·rfl
  ·exact k101_
  ·exact k7_
  ·exact fun β => rfl
  ·exact k101_
 ·rw [show goE P v s = yr_ P v s from if_neg hO]
  refine zf_ (fn := Try.f31) 7 30 0 rfl rfl rfl rfl rfl u15_ rfl fun w0 M E hro => ?_
  repeat' (first | refine Ctl.h ?_ | ((with_reducible intro hif); first | (focus (cases hif; done)) | ((try simp only [JH] at hif); try (exfalso; omega))) | ((with_reducible first | apply J22 cDoB_ok za_ | apply J23 fol cDoB_ok za_ | apply J24); (·rfl); (· (simp only [push_cast, ↓JP, Nat.reduceAdd, Nat.reduceEqDiff, Nat.reduceLT, Nat.reduceMul, Nat.reduceLeDiff, reduceCtorEq, reduceIte, ↓JK, cDoB, sOpenB, JM, JE, nodupN, memN, macP, prP2, pS2, inR, inN, zx_, zw_, iOf, hO]; rfl)); (try kernel_rfl); (try (focus (first | exact True.intro | ((try simp only [JE, zc_]); (repeat' (first | exact True.intro | exact hok | assumption | apply And.intro | rfl | omega | decide | intro _)); done) | ((try simp only [JS, implies_true, forall_const, yd_, yc_, kndOf, inR, inN]); (repeat' (first | assumption | exact True.intro | omega | apply And.intro)); done))))) | fail)
  apply At.endsRet za_ (fn := Try.f31) (rs := [.cell 6 53, .tmp 7]) Anc.refl hro (lb_ rfl) rfl
  ·exact yo_
  ·exact k4_
  ·exact k5_
  ·rfl
  ·exact k101_
  ·exact k7_
  ·exact fun β => rfl
  ·exact k101_
def sIDoG : yp_ := fun args h m => match args with
 | [v1, .agg [v2, v3, v4, v5, v6], .agg [v7, .bool v8, .arr 8 1 v9, v10, v11, v12]] => match y2_ h 5 (.tup []) v1, y2_ h 1 (.tup []) v10, y2_ h 3 (.tup []) v12 with
  | some (c1, n1, f1, r1), some (c10, n10, f10, r10), some (c12, n12, f12, r12) => bif isI .u64 v2 && isI .i64 v3 && isI .i64 v4 && isI .i64 v5 && isI .i64 v6 && isI .i64 v7 && isI .i64 v11 then some (c1 ∧ c10 ∧ c12 ∧ (∀ q, q < n1 → isIns (f1 q) = true) ∧ (∀ q, q < n10 → isI .i64 (f10 q) = true) ∧ (∀ q, q < n12 → isSnd (f12 q) = true) ∧ (∀ q, q < 8 → isI .i64 (v9 q) = true) ∧ ((∀ x ∈ (ls zr_ n1 f1), x.ok)) ∧ (n1 ≤ 1000000) ∧ (n10 ≤ 1000000) ∧ (n12 ≤ 1000000) ∧ (goE (ls zr_ n1 f1) ⟨(iOf v2), (iOf v3), (iOf v4), (iOf v5), (iOf v6)⟩ ⟨(iOf v7), v8, (fun q => iOf (v9 q)), (ls iOf n10 f10), (iOf v11), (ls zm_ n12 f12)⟩ = 0), .tup [stS (yl_ (ls zr_ n1 f1) ⟨(iOf v2), (iOf v3), (iOf v4), (iOf v5), (iOf v6)⟩ ⟨(iOf v7), v8, (fun q => iOf (v9 q)), (ls iOf n10 f10), (iOf v11), (ls zm_ n12 f12)⟩) m (m + 1), .int .i64 0], r1 ++ r10 ++ r12, [(m, cB (yl_ (ls zr_ n1 f1) ⟨(iOf v2), (iOf v3), (iOf v4), (iOf v5), (iOf v6)⟩ ⟨(iOf v7), v8, (fun q => iOf (v9 q)), (ls iOf n10 f10), (iOf v11), (ls zm_ n12 f12)⟩)), (m + 1, sB (yl_ (ls zr_ n1 f1) ⟨(iOf v2), (iOf v3), (iOf v4), (iOf v5), (iOf v6)⟩ ⟨(iOf v7), v8, (fun q => iOf (v9 q)), (ls iOf n10 f10), (iOf v11), (ls zm_ n12 f12)⟩))]) else none
  | _, _, _ => none
 | _ => none
theorem sIDoG_ok : zj_ Try.prog 31 sIDoG := by
 refine ⟨zg_ (by kernel_rfl), fun args h m c v rd wr hs hm hc w0 M β h' w R hrd hwr hst => ?_⟩
 unfold sIDoG at hs
 split at hs
 ·rename_i v1 v2 v3 v4 v5 v6 v7 v8 v9 v10 v11 v12
  split at hs
  ·rename_i c1 n1 f1 r1 c10 n10 f10 r10 c12 n12 f12 r12 a1 a10 a12
   obtain ⟨hb, hs⟩ := zk_ hs
   simp only [Option.some.injEq, Prod.mk.injEq] at hs
   obtain ⟨rfl, rfl, rfl, rfl⟩ := hs
   simp only [Bool.and_eq_true] at hb
   obtain ⟨⟨⟨⟨⟨⟨b2, b3⟩, b4⟩, b5⟩, b6⟩, b7⟩, b11⟩ := hb
   obtain ⟨k1, k10, k12, g1, g10, g12, g9, y1, y2, y3, y4, y5⟩ := hc
   obtain ⟨A1, p1, d1, e1, t1⟩ := zi_ R a1 k1 (fun i hi => hrd i (List.mem_append_left _ (List.mem_append_left _ hi))) (by omega)
   obtain ⟨A10, p10, d10, e10, t10⟩ := zi_ R a10 k10 (fun i hi => hrd i (List.mem_append_left _ (List.mem_append_right _ hi))) (by omega)
   obtain ⟨A12, p12, d12, e12, t12⟩ := zi_ R a12 k12 (fun i hi => hrd i (List.mem_append_right _ hi)) (by omega)
   refine yj_ (views := [⟨5, (ls zr_ n1 f1).length, prS (ls zr_ n1 f1), A1, p1⟩, ⟨1, (ls iOf n10 f10).length, i64S (ls iOf n10 f10), A10, p10⟩, ⟨3, (ls zm_ n12 f12).length, sndsS (ls zm_ n12 f12), A12, p12⟩]) (do_good (ls zr_ n1 f1) ⟨(iOf v2), (iOf v3), (iOf v4), (iOf v5), (iOf v6)⟩ ⟨(iOf v7), v8, (fun q => iOf (v9 q)), (ls iOf n10 f10), (iOf v11), (ls zm_ n12 f12)⟩ p1 p10 p12 y1 (by rw [zc_]; exact y2) u14_ u16_ y5) ?_ R hm hwr ?_ ?_ ?_
   ·intro x hx
    simp only [List.mem_cons, List.not_mem_nil, or_false] at hx
    rcases hx with rfl | rfl | rfl
    ·exact viewIns t1 e1 g1
    ·exact yf_ t10 e10 g10
    ·exact y0_ t12 e12 g12
   ·intro β1 hv
    simp only [Vd, zc_, and_true] at hv
    obtain ⟨z1, z10, z12⟩ := hv
    simp only [denL, z8_, z6_, z9_, zs_, zc_, ym_, evS, sr, csl, ssl, z1, z10, z12, d1, d10, d12, zd_ b2, zd_ b3, zd_ b4, zd_ b5, zd_ b6, zd_ b7, zd_ b11, ← r8Den (β := β) (β1 := β1) g9]
   ·exact k101_
   ·exact k101_
  ·cases hs
 ·cases hs
def sIDoB : yp_ := fun args h m => match args with
 | [v1, .agg [v2, v3, v4, v5, v6], .agg [v7, .bool v8, .arr 8 1 v9, v10, v11, v12]] => match y2_ h 5 (.tup []) v1, y2_ h 1 (.tup []) v10, y2_ h 3 (.tup []) v12 with
  | some (c1, n1, f1, r1), some (c10, n10, f10, r10), some (c12, n12, f12, r12) => bif isI .u64 v2 && isI .i64 v3 && isI .i64 v4 && isI .i64 v5 && isI .i64 v6 && isI .i64 v7 && isI .i64 v11 then some (c1 ∧ c10 ∧ c12 ∧ (∀ q, q < n1 → isIns (f1 q) = true) ∧ (∀ q, q < n10 → isI .i64 (f10 q) = true) ∧ (∀ q, q < n12 → isSnd (f12 q) = true) ∧ (∀ q, q < 8 → isI .i64 (v9 q) = true) ∧ ((∀ x ∈ (ls zr_ n1 f1), x.ok)) ∧ (n1 ≤ 1000000) ∧ (n10 ≤ 1000000) ∧ (n12 ≤ 1000000) ∧ (goE (ls zr_ n1 f1) ⟨(iOf v2), (iOf v3), (iOf v4), (iOf v5), (iOf v6)⟩ ⟨(iOf v7), v8, (fun q => iOf (v9 q)), (ls iOf n10 f10), (iOf v11), (ls zm_ n12 f12)⟩ ≠ 0), .tup [yk_, .int .i64 (goE (ls zr_ n1 f1) ⟨(iOf v2), (iOf v3), (iOf v4), (iOf v5), (iOf v6)⟩ ⟨(iOf v7), v8, (fun q => iOf (v9 q)), (ls iOf n10 f10), (iOf v11), (ls zm_ n12 f12)⟩)], r1 ++ r10 ++ r12, []) else none
  | _, _, _ => none
 | _ => none
theorem sIDoB_ok : zj_ Try.prog 31 sIDoB := by
 refine ⟨zg_ (by kernel_rfl), fun args h m c v rd wr hs hm hc w0 M β h' w R hrd hwr hst => ?_⟩
 unfold sIDoB at hs
 split at hs
 ·rename_i v1 v2 v3 v4 v5 v6 v7 v8 v9 v10 v11 v12
  split at hs
  ·rename_i c1 n1 f1 r1 c10 n10 f10 r10 c12 n12 f12 r12 a1 a10 a12
   obtain ⟨hb, hs⟩ := zk_ hs
   simp only [Option.some.injEq, Prod.mk.injEq] at hs
   obtain ⟨rfl, rfl, rfl, rfl⟩ := hs
   simp only [Bool.and_eq_true] at hb
   obtain ⟨⟨⟨⟨⟨⟨b2, b3⟩, b4⟩, b5⟩, b6⟩, b7⟩, b11⟩ := hb
   obtain ⟨k1, k10, k12, g1, g10, g12, g9, y1, y2, y3, y4, y5⟩ := hc
   obtain ⟨A1, p1, d1, e1, t1⟩ := zi_ R a1 k1 (fun i hi => hrd i (List.mem_append_left _ (List.mem_append_left _ hi))) (by omega)
   obtain ⟨A10, p10, d10, e10, t10⟩ := zi_ R a10 k10 (fun i hi => hrd i (List.mem_append_left _ (List.mem_append_right _ hi))) (by omega)
   obtain ⟨A12, p12, d12, e12, t12⟩ := zi_ R a12 k12 (fun i hi => hrd i (List.mem_append_right _ hi)) (by omega)
   refine yj_ (views := [⟨5, (ls zr_ n1 f1).length, prS (ls zr_ n1 f1), A1, p1⟩, ⟨1, (ls iOf n10 f10).length, i64S (ls iOf n10 f10), A10, p10⟩, ⟨3, (ls zm_ n12 f12).length, sndsS (ls zm_ n12 f12), A12, p12⟩]) (do_bad (ls zr_ n1 f1) ⟨(iOf v2), (iOf v3), (iOf v4), (iOf v5), (iOf v6)⟩ ⟨(iOf v7), v8, (fun q => iOf (v9 q)), (ls iOf n10 f10), (iOf v11), (ls zm_ n12 f12)⟩ p1 p10 p12 y1 (by rw [zc_]; exact y2) u14_ u16_ y5) ?_ R hm hwr ?_ ?_ ?_
   ·intro x hx
    simp only [List.mem_cons, List.not_mem_nil, or_false] at hx
    rcases hx with rfl | rfl | rfl
    ·exact viewIns t1 e1 g1
    ·exact yf_ t10 e10 g10
    ·exact y0_ t12 e12 g12
   ·intro β1 hv
    simp only [Vd, zc_, and_true] at hv
    obtain ⟨z1, z10, z12⟩ := hv
    simp only [denL, z8_, z6_, z9_, zs_, zc_, ym_, evS, sr, csl, ssl, z1, z10, z12, d1, d10, d12, zd_ b2, zd_ b3, zd_ b4, zd_ b5, zd_ b6, zd_ b7, zd_ b11, ← r8Den (β := β) (β1 := β1) g9]
   ·exact k101_
   ·exact k101_
  ·cases hs
 ·cases hs
end Go.Proofs.Ytmljmabbopkpiaa.Vm
end

import Derived.Test.YtjliakjbdcplcaaGreatR1
import Derived.Test.YtjliakjbdcplcaaGreatR11
import Derived.Test.YtjliakjbdcplcaaGreatR33
set_option linter.unusedSimpArgs false
set_option linter.unusedVariables false
set_option maxRecDepth 100000
set_option maxHeartbeats 4000000
section
open Go.Proofs.YtjliakjbdcplcaaGreat.Vm Go.RowKit
attribute [local push_cast] prS zm_ i64S xm_ y4_ y3_ y2_ y1_ y0_ xl_ yz_ yy_ yx_ zl_ zz_ z2_ zy_ zq_ zr_ iOf
section
namespace Go.Proofs.YtjliakjbdcplcaaGreat.Vm
open Go.RowKit
def cRb : FuncId → Option yt_ := y6_ [(52, sRRight), (82, sBegin), (84, sOnB)]
theorem cRb_ok : ∀ f S, cRb f = some S → zh_ Tryz.prog f S := zn_ ⟨sRRight_ok, sBegin_ok, sOnB_ok, trivial⟩
theorem rop_bad (P : List Ins) (v : Evi) (t s q o y d f : Int) (cs : List Int) (p1 p2 : Nat) (hP : ∀ x ∈ P, x.ok) (hn : P.length ≤ 1000000) (hc : cs.length ≤ 1000000) (hE : ropE P v (xn_ y t s cs d) f ≠ 0) : zp_ Tryz.prog 48 [.sl 1 2 [] 5 0 P.length (some p1), .agg [.int .u64 v.seed, .int .i64 v.process, .int .i64 v.ports, .int .i64 v.look, .int .i64 v.now], .agg [.agg [.int .i64 t, .int .i64 s, .int .i64 q], .int .i64 o, .int .i64 y], .sl 3 4 [] 1 0 cs.length (some p2), .int .i64 d, .int .i64 f]
  [.gone, .gone, .ro (.arr P.length 5 (prS P)), .gone, .ro (.arr cs.length 1 (i64S cs))]
  (.tup [.nilp, .int .i64 (ropE P v (xn_ y t s cs d) f)]) [.gone] := by
 by_cases hr : rrE f = 0
 ·have e : ropE P v (xn_ y t s cs d) f = yv_ P v (xn_ y t s cs d) := by unfold ropE; rw [if_pos hr]
  rw [e] at hE ⊢
  refine ze_ (fn := Tryz.f48) 5 29 0 rfl rfl rfl rfl rfl u17_ rfl fun w0 M E hro => ?_
  repeat' (first | refine Ctl.h ?_ | ((with_reducible intro hif); first | (focus (cases hif; done)) | ((try simp only [JH] at hif); try (exfalso; omega))) | ((with_reducible first | apply J22 cRb_ok za_ | apply J23 fol cRb_ok za_ | apply J24); (·rfl); (· (simp only [push_cast, ↓JP, Nat.reduceAdd, Nat.reduceEqDiff, Nat.reduceLT, Nat.reduceMul, Nat.reduceLeDiff, reduceCtorEq, reduceIte, ↓JK, cRb, sRRight, sBegin, sOnB, JE, JB, inR, inN, hr, hE]; rfl)); (try kernel_rfl); try exact k118_) | fail)
  apply At.endsRet za_ (fn := Tryz.f48) (rs := [.tmp 12, .tmp 13]) Anc.refl hro (lb_ rfl) rfl
  ·exact yq_
  ·exact ys_
  ·exact k6_
  ·rfl
  ·exact k122_
  ·exact zx_
  ·exact fun β => rfl
  ·exact k122_
 ·have e : ropE P v (xn_ y t s cs d) f = rrE f := by unfold ropE; rw [if_neg hr]
  rw [e]
  refine ze_ (fn := Tryz.f48) 5 29 0 rfl rfl rfl rfl rfl u17_ rfl fun w0 M E hro => ?_
  repeat' (first | refine Ctl.h ?_ | ((with_reducible intro hif); first | (focus (cases hif; done)) | ((try simp only [JH] at hif); try (exfalso; omega))) | ((with_reducible first | apply J22 cRb_ok za_ | apply J23 fol cRb_ok za_ | apply J24); (·rfl); (· (simp only [push_cast, ↓JP, Nat.reduceAdd, Nat.reduceEqDiff, Nat.reduceLT, Nat.reduceMul, Nat.reduceLeDiff, reduceCtorEq, reduceIte, ↓JK, cRb, sRRight, sBegin, sOnB, JE, JB, inR, inN, hr]; rfl)); (try kernel_rfl); try exact k118_) | fail)
  apply At.endsRet za_ (fn := Tryz.f48) (rs := [.tmp 12, .tmp 13]) Anc.refl hro (lb_ rfl) rfl
  ·exact yq_
  ·exact ys_
  ·exact k6_
  ·rfl
  ·exact k122_
  ·exact zx_
  ·exact fun β => rfl
  ·exact k122_
def sRoG : yt_ := fun args h m => match args with
 | [v1, .agg [v2, v3, v4, v5, v6], .agg [.agg [v7, v8, v9], v10, v11], v12, v13, v14] => match xv_ h 5 (.tup []) v1, xv_ h 1 (.tup []) v12 with
  | some (c1, n1, f1, r1), some (c12, n12, f12, r12) => bif isI .u64 v2 && isI .i64 v3 && isI .i64 v4 && isI .i64 v5 && isI .i64 v6 && isI .i64 v7 && isI .i64 v8 && isI .i64 v9 && isI .i64 v10 && isI .i64 v11 && isI .i64 v13 && isI .i64 v14 then some (c1 ∧ c12 ∧ (∀ q, q < n1 → isIns (f1 q) = true) ∧ (∀ q, q < n12 → isI .i64 (f12 q) = true) ∧ ((∀ x ∈ (ls zo_ n1 f1), x.ok)) ∧ (n1 ≤ 1000000) ∧ (n12 ≤ 1000000) ∧ (ropE (ls zo_ n1 f1) ⟨(iOf v2), (iOf v3), (iOf v4), (iOf v5), (iOf v6)⟩ (xn_ (iOf v11) (iOf v7) (iOf v8) (ls iOf n12 f12) (iOf v13)) (iOf v14) = 0), .tup [.ptr m [], .int .i64 0], r1 ++ r12, [(m, eB (m + 1) (m + 4) (ls zo_ n1 f1).length), (m + 1, mB (xn_ (iOf v11) (iOf v7) (iOf v8) (ls iOf n12 f12) (iOf v13)) ⟨(iOf v2), (iOf v3), (iOf v4), (iOf v5), (iOf v6)⟩ Ins0 (m + 2) (m + 3)), (m + 2, cB (xn_ (iOf v11) (iOf v7) (iOf v8) (ls iOf n12 f12) (iOf v13))), (m + 3, sB (xn_ (iOf v11) (iOf v7) (iOf v8) (ls iOf n12 f12) (iOf v13))), (m + 4, prO (ls zo_ n1 f1))]) else none
  | _, _ => none
 | _ => none
theorem sRoG_ok : zh_ Tryz.prog 48 sRoG := by
 refine ⟨zf_ (by kernel_rfl), fun args h m c v rd wr hs hm hc w0 M β h' w R hrd hwr hst => ?_⟩
 unfold sRoG at hs
 split at hs
 ·rename_i v1 v2 v3 v4 v5 v6 v7 v8 v9 v10 v11 v12 v13 v14
  split at hs
  ·rename_i c1 n1 f1 r1 c12 n12 f12 r12 a1 a12
   obtain ⟨hb, hs⟩ := zj_ hs
   simp only [Option.some.injEq, Prod.mk.injEq] at hs
   obtain ⟨rfl, rfl, rfl, rfl⟩ := hs
   simp only [Bool.and_eq_true] at hb
   obtain ⟨⟨⟨⟨⟨⟨⟨⟨⟨⟨⟨b2, b3⟩, b4⟩, b5⟩, b6⟩, b7⟩, b8⟩, b9⟩, b10⟩, b11⟩, b13⟩, b14⟩ := hb
   obtain ⟨k1, k12, g1, g12, y1, y2, y3, y4⟩ := hc
   obtain ⟨A1, p1, d1, e1, t1⟩ := zi_ R a1 k1 (fun i hi => hrd i (List.mem_append_left _ hi)) (by omega)
   obtain ⟨A12, p12, d12, e12, t12⟩ := zi_ R a12 k12 (fun i hi => hrd i (List.mem_append_right _ hi)) (by omega)
   refine ym_ (views := [⟨5, (ls zo_ n1 f1).length, prS (ls zo_ n1 f1), A1, p1⟩, ⟨1, (ls iOf n12 f12).length, i64S (ls iOf n12 f12), A12, p12⟩]) (rop_good (ls zo_ n1 f1) ⟨(iOf v2), (iOf v3), (iOf v4), (iOf v5), (iOf v6)⟩ (iOf v7) (iOf v8) (iOf v9) (iOf v10) (iOf v11) (iOf v13) (iOf v14) (ls iOf n12 f12) p1 p12 y1 (by rw [zb_]; exact y2) (by rw [zb_]; exact y3) y4) ?_ R hm hwr ?_ ?_ ?_
   ·exact d43_
   ·exact d45_
   ·exact k122_
   ·exact k122_
  ·cases hs
 ·cases hs
def sRoB : yt_ := fun args h m => match args with
 | [v1, .agg [v2, v3, v4, v5, v6], .agg [.agg [v7, v8, v9], v10, v11], v12, v13, v14] => match xv_ h 5 (.tup []) v1, xv_ h 1 (.tup []) v12 with
  | some (c1, n1, f1, r1), some (c12, n12, f12, r12) => bif isI .u64 v2 && isI .i64 v3 && isI .i64 v4 && isI .i64 v5 && isI .i64 v6 && isI .i64 v7 && isI .i64 v8 && isI .i64 v9 && isI .i64 v10 && isI .i64 v11 && isI .i64 v13 && isI .i64 v14 then some (c1 ∧ c12 ∧ (∀ q, q < n1 → isIns (f1 q) = true) ∧ (∀ q, q < n12 → isI .i64 (f12 q) = true) ∧ ((∀ x ∈ (ls zo_ n1 f1), x.ok)) ∧ (n1 ≤ 1000000) ∧ (n12 ≤ 1000000) ∧ (ropE (ls zo_ n1 f1) ⟨(iOf v2), (iOf v3), (iOf v4), (iOf v5), (iOf v6)⟩ (xn_ (iOf v11) (iOf v7) (iOf v8) (ls iOf n12 f12) (iOf v13)) (iOf v14) ≠ 0), .tup [.nilp, .int .i64 (ropE (ls zo_ n1 f1) ⟨(iOf v2), (iOf v3), (iOf v4), (iOf v5), (iOf v6)⟩ (xn_ (iOf v11) (iOf v7) (iOf v8) (ls iOf n12 f12) (iOf v13)) (iOf v14))], r1 ++ r12, []) else none
  | _, _ => none
 | _ => none
theorem sRoB_ok : zh_ Tryz.prog 48 sRoB := by
 refine ⟨zf_ (by kernel_rfl), fun args h m c v rd wr hs hm hc w0 M β h' w R hrd hwr hst => ?_⟩
 unfold sRoB at hs
 split at hs
 ·rename_i v1 v2 v3 v4 v5 v6 v7 v8 v9 v10 v11 v12 v13 v14
  split at hs
  ·rename_i c1 n1 f1 r1 c12 n12 f12 r12 a1 a12
   obtain ⟨hb, hs⟩ := zj_ hs
   simp only [Option.some.injEq, Prod.mk.injEq] at hs
   obtain ⟨rfl, rfl, rfl, rfl⟩ := hs
   simp only [Bool.and_eq_true] at hb
   obtain ⟨⟨⟨⟨⟨⟨⟨⟨⟨⟨⟨b2, b3⟩, b4⟩, b5⟩, b6⟩, b7⟩, b8⟩, b9⟩, b10⟩, b11⟩, b13⟩, b14⟩ := hb
   obtain ⟨k1, k12, g1, g12, y1, y2, y3, y4⟩ := hc
   obtain ⟨A1, p1, d1, e1, t1⟩ := zi_ R a1 k1 (fun i hi => hrd i (List.mem_append_left _ hi)) (by omega)
   obtain ⟨A12, p12, d12, e12, t12⟩ := zi_ R a12 k12 (fun i hi => hrd i (List.mem_append_right _ hi)) (by omega)
   refine ym_ (views := [⟨5, (ls zo_ n1 f1).length, prS (ls zo_ n1 f1), A1, p1⟩, ⟨1, (ls iOf n12 f12).length, i64S (ls iOf n12 f12), A12, p12⟩]) (rop_bad (ls zo_ n1 f1) ⟨(iOf v2), (iOf v3), (iOf v4), (iOf v5), (iOf v6)⟩ (iOf v7) (iOf v8) (iOf v9) (iOf v10) (iOf v11) (iOf v13) (iOf v14) (ls iOf n12 f12) p1 p12 y1 (by rw [zb_]; exact y2) (by rw [zb_]; exact y3) y4) ?_ R hm hwr ?_ ?_ ?_
   ·exact d43_
   ·exact d45_
   ·exact k122_
   ·exact k122_
  ·cases hs
 ·cases hs
def cRun : FuncId → Option yt_ := y6_ [(48, sRoG), (49, sSteps), (89, eEnded), (90, eAt), (91, eStep), (50, eState)]
theorem z1_ : ∀ f S, cRun f = some S → zh_ Tryz.prog f S := zn_ ⟨sRoG_ok, sSteps_ok, eEnded_ok, eAt_ok, eStep_ok, eState_ok, trivial⟩
structure RS where
 k : Nat
 s : Sta
 x : Ins
 tr : List Int
 a : Int
structure RInv (P : List Ins) (v : Evi) (f : Int) (r : RR) (y : RS) : Prop where
 k : y.k ≤ f.toNat
 g : SG P y.s
 l : y.tr.length = y.k
 r : xp_ P v (f.toNat - y.k) y.s y.x y.tr y.a = r
theorem less_res {t : Nat} {ex : Bool} {w : SV} {u d : SV} : Less (.own t (.agg [.nat .i64 0, .nat .i64 0, w, u, d]) ex) (.own t (.agg [.nat .i64 0, .int .i64 0, w, u, d]) ex) :=
 .val (fun β => rfl) (fun n k f e => by cases e) (fun n k f e => by cases e)
theorem Run_good (P : List Ins) (v : Evi) (t s q o y d f : Int) (cs : List Int) (p1 p2 : Nat) (hP : PG P) (V : VOk v) (hc : cs.length ≤ 1000000) (hE : ropE P v (xn_ y t s cs d) f = 0) (r : RR) (hr : xp_ P v f.toNat (xn_ y t s cs d) Ins0 [] 0 = r) (hb : r.bad = 0) : zp_ Tryz.prog 13 [.sl 1 2 [] 5 0 P.length (some p1), .agg [.int .u64 v.seed, .int .i64 v.process, .int .i64 v.ports, .int .i64 v.look, .int .i64 v.now], .agg [.agg [.int .i64 t, .int .i64 s, .int .i64 q], .int .i64 o, .int .i64 y], .sl 3 4 [] 1 0 cs.length (some p2), .int .i64 d, .int .i64 f]
  [.gone, .gone, .ro (.arr P.length 5 (prS P)), .gone, .ro (.arr cs.length 1 (i64S cs))]
  (.tup [.agg [.nat .i64 r.tr.length, .int .i64 r.at_, .sl 5 5 [] 1 0 r.s.cells.length none, .int .i64 r.s.draws, .sl 6 6 [] 3 0 r.s.sends.length none], .int .i64 0]) [.gone, .gone, .gone, .gone, .gone, cB r.s, sB r.s] := by
 have hok := hP.ok
 have hn := hP.len
 have hn' : P.length ≤ 1000000 := by omega
 have hf := (ropE_zero hE).1
 have hO := openE_zero (ropE_zero hE).2
 have hG : SG P (xn_ y t s cs d) := SG.of hO.2.2 (by simp [xn_])
 obtain ⟨s0, hs0⟩ : ∃ s0, xn_ y t s cs d = s0 := ⟨_, rfl⟩
 rw [hs0] at hE hr hG
 have hl0 : ∀ ex, Less (.own 42 (.agg [.nat .i64 0, .nat .i64 0, .sl 0 0 [] 0 0 0 (some 0), .nat .i64 0, .sl 0 0 [] 0 0 0 (some 0)]) ex) (.own 42 (.agg [.nat .i64 0, .int .i64 0, .sl 0 0 [] 0 0 0 (some 0), .nat .i64 0, .sl 0 0 [] 0 0 0 (some 0)]) ex) := fun ex => less_res
 have hl1 := hl0 true
 refine ze_ (fn := Tryz.f13) 5 66 0 rfl rfl rfl rfl rfl u18_ rfl fun w0 M E hro => ?_
 repeat' (first | refine Ctl.h ?_ | ((with_reducible intro hif); first | (focus (cases hif; done)) | ((try simp only [JH] at hif); try (exfalso; omega))) | ((with_reducible first | apply J22 z1_ za_ | apply J23 fol z1_ za_ | apply J24); (·rfl); (· exact k134_); (try kernel_rfl); try exact k133_) | fail)
 with_reducible apply WF.range (fn' := Tryz.f88) 28
 ·exact k126_
 ·exact k12_
 ·rfl
 ·rfl
 ·rfl
 ·rfl
 ·rfl
 ·rfl
 ·rfl
 intro E1 rec tmps after hE1 hrec hcf haft
 repeat' (first | refine Ctl.h ?_ | ((with_reducible intro hif); first | (focus (cases hif; done)) | ((try simp only [JH] at hif); try (exfalso; omega))) | ((with_reducible first | apply J22 z1_ za_ | apply J23 fol z1_ za_ | apply J24); (·rfl); (· exact k135_); (try kernel_rfl); try exact k25_) | fail)
 refine At.pick (L2 := [.gone, .gone, .ro (.arr P.length 5 (prS P)), .gone, .ro (.arr cs.length 1 (i64S cs)), .gone, .gone, .own 42 (.agg [.nat .i64 0, .nat .i64 0, .sl 0 0 [] 0 0 0 (some 0), .nat .i64 0, .sl 0 0 [] 0 0 0 (some 0)]) true, eB 9 12 P.length, mB s0 v Ins0 10 19, cB s0, .gone, prO P, .own 43 (.int .i64 0) true, .own 42 (.agg [.nat .i64 0, .int .i64 0, .sl 0 0 [] 0 0 0 (some 0), .nat .i64 0, .sl 0 0 [] 0 0 0 (some 0)]) true, pbB 8, fbB f, .raw (.deferred (some [])), .raw (.loop (rec .ready none)), sB s0]) (φ2 := [(0, .yl 18), (1, .ptr 15 []), (2, .ptr 16 []), (4, .nat .i64 0)]) [0, 1, 2, 3, 4, 5, 6, 7, 8, 9, 10, 11, 12, 13, 14, 15, 16, 17, 18, 11] rfl rfl rfl ?_ rfl ?_ ?_ ?_ rfl ?_
 ·exact k127_
 ·exact k128_
 ·exact k20_
 ·exact k128_
 refine WF.loopAt (fun (z : RS) => RInv P v f r z) (fun (z : RS) => [(0, .yl 18), (1, .ptr 15 []), (2, .ptr 16 []), (4, .nat .i64 z.k)]) (fun (z : RS) => [.gone, .gone, .ro (.arr P.length 5 (prS P)), .gone, .ro (.arr cs.length 1 (i64S cs)), .gone, .gone, .own 42 (.agg [.nat .i64 0, .nat .i64 0, .sl 0 0 [] 0 0 0 (some 0), .nat .i64 0, .sl 0 0 [] 0 0 0 (some 0)]) true, eB 9 12 P.length, mB z.s v z.x 10 19, cB z.s, .gone, prO P, .own 43 (.int .i64 0) true, .own 42 (.agg [.nat .i64 z.k, .int .i64 z.a, .sl 0 0 [] 0 0 0 (some 0), .nat .i64 0, .sl 0 0 [] 0 0 0 (some 0)]) true, pbB 8, fbB f, .raw (.deferred (some [])), .raw (.loop (rec .ready none)), sB z.s]) (fun (z : RS) => f.toNat - z.k) ⟨0, s0, Ins0, [], 0⟩ ⟨Nat.zero_le _, hG, rfl, hr⟩ ?_ ?_ rfl ?_ ?_ rfl ?_
 ·exact k5_
 ·exact k6_
 ·exact k128_
 ·exact k128_
 rintro ⟨k, ⟨at1, en, rg, ce, dr, se⟩, x, tr, a⟩ ⟨hk, hg, hl, hr1⟩
 dsimp only at hk hg hl hr1 ⊢
 cases en
 ·have hkf : k < f.toNat := by
   rcases Nat.lt_or_ge k f.toNat with h | h
   ·exact h
   ·exfalso
    have e0 : f.toNat - k = 0 := by omega
    rw [e0, runA_zero rfl] at hr1
    rw [← hr1] at hb
    cases hb
  have hst : stepE P v ⟨at1, false, rg, ce, dr, se⟩ = 0 := by
   by_cases h : stepE P v ⟨at1, false, rg, ce, dr, se⟩ = 0
   ·exact h
   ·rw [runA_bad rfl (by omega) h] at hr1
    rw [← hr1] at hb
    exact absurd hb h
  have hkf2 : (k : Int) < f := by omega
  repeat' (first | refine Ctl.h ?_ | ((with_reducible intro hif); first | (focus (cases hif; done)) | ((try simp only [JH] at hif); try (exfalso; omega))) | ((with_reducible first | apply J22 z1_ za_ | apply J23 fol z1_ za_ | apply J24); (·rfl); (· exact k136_); (try kernel_rfl); try exact k25_) | fail)
  with_reducible apply WF.split 3 5
  ·rfl
  with_reducible apply At.run z1_ za_
  ·rfl
  ·rfl
  ·rfl
  ·exact k129_
  ·exact k130_
  with_reducible apply At.yield (gr := _)
  ·rfl
  ·rfl
  ·rfl
  ·rfl
  ·rfl
  ·rfl
  ·exact k129_
  ·exact k131_
  ·exact k129_
  ·exact k130_
  ·exact k129_
  ·exact k130_
  ·exact k131_
  ·exact hrec
  ·exact hcf
  ·rfl
  ·rfl
  ·rfl
  intro lb E2 next hE2 hnext
  repeat' (first | refine Ctl.h ?_ | ((with_reducible intro hif); first | (focus (cases hif; done)) | ((try simp only [JH] at hif); try (exfalso; omega))) | ((with_reducible first | apply J22 z1_ za_ | apply J23 fol z1_ za_ | apply J24); (·rfl); (· exact k137_); (try kernel_rfl); try exact k25_) | fail)
  with_reducible apply At.begins hrec
  ·rfl
  with_reducible refine At.code ?_
  repeat' (first | refine Ctl.h ?_ | ((with_reducible intro hif); first | (focus (cases hif; done)) | ((try simp only [JH] at hif); try (exfalso; omega))) | ((with_reducible first | apply J22 z1_ za_ | apply J23 fol z1_ za_ | apply J24); (·rfl); (· exact k137_); (try kernel_rfl); try exact k25_) | fail)
  with_reducible apply At.roundNormal
  ·exact k131_
  apply hnext
  with_reducible apply At.runEnd z1_ za_
  ·rfl
  ·rfl
  ·rfl
  ·exact k129_
  ·exact k130_
  repeat' (first | refine Ctl.h ?_ | ((with_reducible intro hif); first | (focus (cases hif; done)) | ((try simp only [JH] at hif); try (exfalso; omega))) | ((with_reducible first | apply J22 z1_ za_ | apply J23 fol z1_ za_ | apply J24); (·rfl); (· exact k137_); (try kernel_rfl); try exact k25_) | fail)
  refine At.nextPick [0, 1, 2, 3, 4, 5, 6, 7, 8, 9, 10, 11, 12, 13, 14, 15, 16, 17, 18, 20] ⟨k + 1, stepS P v ⟨at1, false, rg, ce, dr, se⟩, stepX P ⟨at1, false, rg, ce, dr, se⟩ x, tr ++ [at1], at1⟩ ?_ rfl rfl rfl ?_ rfl ?_ ?_ ?_ rfl
  ·exact k132_
  ·exact k29_
  ·exact k128_
  ·exact k20_
  ·exact k128_
 ·rw [runA_end rfl] at hr1
  subst hr1
  have hcl := hg.c1
  have hsl := hg.n1
  dsimp only at hcl hsl
  have hcl2 : ce.length ≤ 1000000 := by omega
  repeat' (first | refine Ctl.h ?_ | ((with_reducible intro hif); first | (focus (cases hif; done)) | ((try simp only [JH] at hif); try (exfalso; omega))) | ((with_reducible first | apply J22 z1_ za_ | apply J23 fol z1_ za_ | apply J24); (·rfl); (· exact k138_); (try kernel_rfl); try exact k25_) | fail)
  with_reducible apply At.itNormal .ready
  ·rfl
  ·rfl
  ·intro h; cases h
  apply haft
  intro w1 M1 D1 hA
  dsimp only
  repeat' (first | refine Ctl.h ?_ | ((with_reducible intro hif); first | (focus (cases hif; done)) | ((try simp only [JH] at hif); try (exfalso; omega))) | ((with_reducible first | apply J22 z1_ za_ | apply J23 fol z1_ za_ | apply J24); (·rfl); (· exact k138_); (try kernel_rfl); try exact k25_) | fail)
  apply At.endsPick [0, 1, 2, 3, 4, 20, 21] za_ (fn := Tryz.f13) (rs := [.cell 12 42, .tmp 13]) hA hro (lb_ rfl) rfl
  ·exact yq_
  ·exact k12_
  ·rfl
  ·rfl
  ·rfl
  ·exact k29_
  ·rfl
  ·exact k128_
  ·exact zx_
  ·exact fun β => by rw [hl]; rfl
  ·exact k128_
end Go.Proofs.YtjliakjbdcplcaaGreat.Vm
end
end

import Derived.Test.YtjliakjbdcplcaaGreatR1
import Derived.Test.YtjliakjbdcplcaaGreatR11
import Derived.Test.YtjliakjbdcplcaaGreatR36
set_option linter.unusedSimpArgs false
set_option linter.unusedVariables false
set_option maxRecDepth 100000
set_option maxHeartbeats 4000000
section
namespace Go.Proofs.YtjliakjbdcplcaaGreat.Vm
open Go.RowKit
attribute [local push_cast] prS zm_ i64S xm_ y4_ y3_ y2_ y1_ y0_ xl_ yz_ yy_ yx_ zl_ zz_ z2_ zy_ zq_ zr_ iOf
theorem evR_st {h : HM} {v : Evi} : (HB.ro (evS v)).stable h := by simp [HB.stable, evS, Stable, zd_]
theorem fsR_st {h : HM} {s : Sta} {j : Nat} (h0 : (h 0).born = true) (hj : (h j).born = true) : (HB.ro (fsS s j)).stable h := by simp [HB.stable, fsS, Stable, zd_, h0, hj]
theorem clA_st {h : HM} {i n : Nat} (hi : (h i).born = true) : (clA i n).stable h := ⟨hi, hi⟩
theorem clB_st {h : HM} {v : Evi} : (clB v).stable h := by simp [clB, HB.stable, evS, Stable, zd_]
theorem clC_st {h : HM} {s : Sta} {j : Nat} (h0 : (h 0).born = true) (hj : (h j).born = true) : (clC s j).stable h := by simp [clC, HB.stable, fsS, Stable, zd_, h0, hj]
def sBgG : yt_ := fun args h m => match args with
 | [.ptr a [], .ptr b [], .ptr c []] => match clP h a b c with
  | some (P, v, s, i, j, ok) => bif z8_ [0, a, b, c, i, j] then some (ok ∧ (∀ x ∈ P, x.ok) ∧ P.length ≤ 1000000 ∧ s.cells.length ≤ 1000000 ∧ yv_ P v s = 0, .tup [.ptr m [], .int .i64 0], [a, b, c, i, j], [(m, eB (m + 1) (m + 4) P.length), (m + 1, mB s v Ins0 (m + 2) (m + 3)), (m + 2, cB s), (m + 3, sB s), (m + 4, prO P)]) else none
  | none => none
 | _ => none
theorem sBgG_ok : zh_ Tryz.prog 83 sBgG := by
 refine ⟨zf_ (by kernel_rfl), fun args h m c v rd wr hs hm hc w0 M β h' w R hrd hwr hst => ?_⟩
 unfold sBgG at hs
 split at hs
 ·rename_i a b c
  split at hs
  ·rename_i P v s i j ok hcp
   obtain ⟨hnd, hs⟩ := zj_ hs
   simp only [Option.some.injEq, Prod.mk.injEq] at hs
   obtain ⟨rfl, rfl, rfl, rfl⟩ := hs
   obtain ⟨hs0, ok2, rg, cf, rfl, hpp, ha, hb, hcc, hj, hq, hql⟩ := clP_val hcp
   obtain ⟨⟨hok2, hrg, hcf⟩, hP, hn, hcl, hE⟩ := hc
   have ea := hrd a (by simp)
   have eb := hrd b (by simp)
   have ec := hrd c (by simp)
   have ei := hrd i (by simp)
   have ej := hrd j (by simp)
   exact bun_ok (h := h) (m := m) [0, a, b, c, i, j] (beg_good P v s hs0 hP hn hcl hE) R rfl (by simp) rfl rfl hnd
    ⟨Fit.gone (by rw [R.nil0]; rfl), Fit.ro (u := .sl i i [] 5 0 P.length none) (by rw [ea, ha]; rfl) (fun β => rfl) (fun n k f e => by cases e), Fit.ro (u := evS v) (by rw [eb, hb]; rfl) (fun β => rfl) (fun n k f e => by cases e), (bun_clC hcc hrg hq ec rfl rfl).1, bun_pr hpp hok2 ei, bun_clJ hj hcf hql ej, trivial⟩ hm
    (fun p hp => by
     simp only [newB, List.drop, List.length_cons, List.length_nil, List.mem_cons, List.not_mem_nil, or_false] at hp
     rcases hp with rfl | rfl | rfl | rfl | rfl
     ·exact hwr (m, eB (m + 1) (m + 4) P.length) (by simp)
     ·exact hwr (m + 1, mB s v Ins0 (m + 2) (m + 3)) (by simp)
     ·exact hwr (m + 2, cB s) (by simp)
     ·exact hwr (m + 3, sB s) (by simp)
     ·exact hwr (m + 4, prO P) (by simp)) (by simp) rfl
    ⟨trivial, ⟨rfl, rfl⟩, evR_st, fsR_st rfl rfl, prR_st, celR_st, trivial⟩ ⟨rfl, rfl, rfl, trivial⟩
    ⟨trivial, ⟨rfl, rfl⟩, evR_st, fsR_st rfl rfl, prR_st, celR_st, eB_st rfl rfl, mB_st rfl rfl, cB_st, sB_st, prO_st, trivial⟩ (⟨rfl, trivial, trivial⟩) rfl (by simp [SV.ren, renL, xw_]) (by show [(m, (eB 7 10 _).ren _), (m + 1, (mB s v Ins0 8 9).ren _), (m + 2, (cB s).ren _), (m + 3, (sB s).ren _), (m + 4, (prO P).ren _)] = _; rw [eB_ren, mB_ren, cB_ren, sB_ren, prO_ren]; simp [xw_])
  ·cases hs
 ·cases hs
def sBgB : yt_ := fun args h m => match args with
 | [.ptr a [], .ptr b [], .ptr c []] => match clP h a b c with
  | some (P, v, s, i, j, ok) => bif z8_ [0, a, b, c, i, j] then some (ok ∧ (∀ x ∈ P, x.ok) ∧ P.length ≤ 1000000 ∧ s.cells.length ≤ 1000000 ∧ yv_ P v s ≠ 0, .tup [.nilp, .int .i64 (yv_ P v s)], [a, b, c, i, j], []) else none
  | none => none
 | _ => none
theorem sBgB_ok : zh_ Tryz.prog 83 sBgB := by
 refine ⟨zf_ (by kernel_rfl), fun args h m c v rd wr hs hm hc w0 M β h' w R hrd hwr hst => ?_⟩
 unfold sBgB at hs
 split at hs
 ·rename_i a b c
  split at hs
  ·rename_i P v s i j ok hcp
   obtain ⟨hnd, hs⟩ := zj_ hs
   simp only [Option.some.injEq, Prod.mk.injEq] at hs
   obtain ⟨rfl, rfl, rfl, rfl⟩ := hs
   obtain ⟨hs0, ok2, rg, cf, rfl, hpp, ha, hb, hcc, hj, hq, hql⟩ := clP_val hcp
   obtain ⟨⟨hok2, hrg, hcf⟩, hP, hn, hcl, hE⟩ := hc
   have ea := hrd a (by simp)
   have eb := hrd b (by simp)
   have ec := hrd c (by simp)
   have ei := hrd i (by simp)
   have ej := hrd j (by simp)
   exact bun_ok (h := h) (m := m) [0, a, b, c, i, j] (beg_bad P v s hs0 hP hn hcl hE) R rfl (by simp) rfl rfl hnd
    ⟨Fit.gone (by rw [R.nil0]; rfl), Fit.ro (u := .sl i i [] 5 0 P.length none) (by rw [ea, ha]; rfl) (fun β => rfl) (fun n k f e => by cases e), Fit.ro (u := evS v) (by rw [eb, hb]; rfl) (fun β => rfl) (fun n k f e => by cases e), (bun_clC hcc hrg hq ec rfl rfl).1, bun_pr hpp hok2 ei, bun_clJ hj hcf hql ej, trivial⟩ hm
    (fun p hp => by cases hp) (by simp) rfl
    ⟨trivial, ⟨rfl, rfl⟩, evR_st, fsR_st rfl rfl, prR_st, celR_st, trivial⟩ ⟨rfl, rfl, rfl, trivial⟩
    ⟨trivial, ⟨rfl, rfl⟩, evR_st, fsR_st rfl rfl, prR_st, celR_st, trivial⟩ (⟨trivial, trivial, trivial⟩) rfl (rfl) (by rfl)
  ·cases hs
 ·cases hs
def cNw : FuncId → Option yt_ := y6_ [(34, sClI), (82, sBegin), (83, sBgG)]
theorem cNw_ok : ∀ f S, cNw f = some S → zh_ Tryz.prog f S := zn_ ⟨sClI_ok, sBegin_ok, sBgG_ok, trivial⟩
theorem new_good (P : List Ins) (v : Evi) (t s q o y d : Int) (cs : List Int) (p1 p2 : Nat) (hP : ∀ x ∈ P, x.ok) (hn : P.length ≤ 1000000) (hc : cs.length ≤ 1000000) (hE : yv_ P v (xn_ y t s cs d) = 0) : zp_ Tryz.prog 36 [.sl 1 2 [] 5 0 P.length (some p1), .agg [.int .u64 v.seed, .int .i64 v.process, .int .i64 v.ports, .int .i64 v.look, .int .i64 v.now], .agg [.agg [.int .i64 t, .int .i64 s, .int .i64 q], .int .i64 o, .int .i64 y], .sl 3 4 [] 1 0 cs.length (some p2), .int .i64 d]
  [.gone, .gone, .ro (.arr P.length 5 (prS P)), .gone, .ro (.arr cs.length 1 (i64S cs))]
  (.tup [.ptr 5 [], .int .i64 0]) [.gone, .gone, .gone, .gone, .gone, rB 6 11 12 13 0 false, eB 7 10 P.length, mB (xn_ y t s cs d) v Ins0 8 9, cB (xn_ y t s cs d), sB (xn_ y t s cs d), prO P, clA 14 P.length, clB v, clC (xn_ y t s cs d) 15, prO P, cB (xn_ y t s cs d)] := by
 refine ze_ (fn := Tryz.f36) 5 36 0 rfl rfl rfl rfl rfl u21_ rfl fun w0 M E hro => ?_
 repeat' (first | refine Ctl.h ?_ | ((with_reducible intro hif); first | (focus (cases hif; done)) | ((try simp only [JH] at hif); try (exfalso; omega))) | ((with_reducible first | apply J22 cNw_ok za_ | apply J23 fol cNw_ok za_ | apply J24); (·rfl); (· (simp only [push_cast, ↓JP, Nat.reduceAdd, Nat.reduceEqDiff, Nat.reduceLT, Nat.reduceMul, Nat.reduceLeDiff, reduceCtorEq, reduceIte, ↓JK, cNw, sBgG, JE, JB, sClI, sBegin, clP, prP, z8_, memN, inR, inN, hE]; rfl)); (try kernel_rfl); try exact k158_) | fail)
 apply At.endsPick [0, 1, 2, 3, 4, 16, 11, 12, 13, 14, 15, 9, 5, 10, 7, 8] za_ (fn := Tryz.f36) (rs := [.tmp 10, .tmp 11]) Anc.refl hro (lb_ rfl) rfl
 ·exact yq_
 ·exact k12_
 ·rfl
 ·rfl
 ·rfl
 ·exact k29_
 ·rfl
 ·exact k149_
 ·exact zx_
 ·exact fun β => rfl
 ·exact k149_
def cNb : FuncId → Option yt_ := y6_ [(34, sClI), (82, sBegin), (83, sBgB)]
theorem cNb_ok : ∀ f S, cNb f = some S → zh_ Tryz.prog f S := zn_ ⟨sClI_ok, sBegin_ok, sBgB_ok, trivial⟩
theorem new_bad (P : List Ins) (v : Evi) (t s q o y d : Int) (cs : List Int) (p1 p2 : Nat) (hP : ∀ x ∈ P, x.ok) (hn : P.length ≤ 1000000) (hc : cs.length ≤ 1000000) (hE : yv_ P v (xn_ y t s cs d) ≠ 0) : zp_ Tryz.prog 36 [.sl 1 2 [] 5 0 P.length (some p1), .agg [.int .u64 v.seed, .int .i64 v.process, .int .i64 v.ports, .int .i64 v.look, .int .i64 v.now], .agg [.agg [.int .i64 t, .int .i64 s, .int .i64 q], .int .i64 o, .int .i64 y], .sl 3 4 [] 1 0 cs.length (some p2), .int .i64 d]
  [.gone, .gone, .ro (.arr P.length 5 (prS P)), .gone, .ro (.arr cs.length 1 (i64S cs))]
  (.tup [.nilp, .int .i64 (yv_ P v (xn_ y t s cs d))]) [.gone] := by
 refine ze_ (fn := Tryz.f36) 5 36 0 rfl rfl rfl rfl rfl u21_ rfl fun w0 M E hro => ?_
 repeat' (first | refine Ctl.h ?_ | ((with_reducible intro hif); first | (focus (cases hif; done)) | ((try simp only [JH] at hif); try (exfalso; omega))) | ((with_reducible first | apply J22 cNb_ok za_ | apply J23 fol cNb_ok za_ | apply J24); (·rfl); (· (simp only [push_cast, ↓JP, Nat.reduceAdd, Nat.reduceEqDiff, Nat.reduceLT, Nat.reduceMul, Nat.reduceLeDiff, reduceCtorEq, reduceIte, ↓JK, cNb, sBgB, JE, JB, sClI, sBegin, clP, prP, z8_, memN, inR, inN, hE]; rfl)); (try kernel_rfl); try exact k158_) | fail)
 apply At.endsRet za_ (fn := Tryz.f36) (rs := [.tmp 10, .tmp 11]) Anc.refl hro (lb_ rfl) rfl
 ·exact yq_
 ·exact ys_
 ·exact k6_
 ·rfl
 ·exact k149_
 ·exact zx_
 ·exact fun β => rfl
 ·exact k149_
end Go.Proofs.YtjliakjbdcplcaaGreat.Vm
end
section
namespace Go.Proofs.YtjliakjbdcplcaaGreat.Vm
open Go.RowKit
attribute [local push_cast] prS zm_ i64S xm_ y4_ y3_ y2_ y1_ y0_ xl_ yz_ yy_ yx_ zl_ zz_ z2_ zy_ zq_ zr_ iOf JM eB prO JE inR inN z8_ memN
theorem goT_lit (P : List Ins) (s : Sta) (v : Evi) (x0 : Ins) (u : Nat) (f : Int) (hP : PG P) (V : VOk v) (hG : SG P s) (hu : u ≤ 4611686018427387904) (hf0 : 0 ≤ f) (hf1 : f ≤ 4096) (r : RR) (hr : xp_ P v f.toNat s x0 [] 0 = r) : zp_ Tryz.prog 15 [.ptr 1 [], .int .i64 f] [.gone, rB 2 7 8 9 u true, eB 3 6 P.length, mB s v x0 4 5, cB s, sB s, prO P, .gone, .gone, .gone]
  (.tup [.bool (decide (r.bad = 0)), .int .i64 (if r.bad = 190 then 0 else r.bad)]) [.gone, rB 2 7 8 9 u true, eB 3 6 P.length, mB r.s v r.x 4 10, cB r.s, .gone, prO P, .gone, .gone, .gone, sB r.s] := by
 have hrr : rrE f = 0 := by unfold rrE; rw [if_neg (by omega)]
 refine ze_ (fn := Tryz.f15) 10 44 0 rfl rfl rfl rfl rfl u20_ rfl fun w0 M E hro => ?_
 repeat' (first | refine Ctl.h ?_ | ((with_reducible intro hif); first | (focus (cases hif; done)) | ((try simp only [JH] at hif); try (exfalso; omega))) | ((with_reducible first | apply J22 zu_ za_ | apply J23 fol zu_ za_ | apply J24); (·rfl); (· exact k150_); (try kernel_rfl); try exact y5_) | fail)
 with_reducible apply WF.range (fn' := Tryz.f88) 28
 ·exact k126_
 ·exact k12_
 ·rfl
 ·rfl
 ·rfl
 ·rfl
 ·rfl
 ·rfl
 ·rfl
 intro E1 rec tmps after hE1 hrec hcf haft
 repeat' (first | refine Ctl.h ?_ | ((with_reducible intro hif); first | (focus (cases hif; done)) | ((try simp only [JH] at hif); try (exfalso; omega))) | ((with_reducible first | apply J22 zu_ za_ | apply J23 fol zu_ za_ | apply J24); (·rfl); (· exact k151_); (try kernel_rfl); try exact y5_) | fail)
 refine At.pick (L2 := [.gone, rB 2 7 8 9 u true, eB 3 6 P.length, mB s v x0 4 17, cB s, .gone, prO P, .gone, .gone, .gone, .own 48 (.ptr 1 []) true, .own 4 (.bool false) true, .own 43 (.nat .i64 0) true, pbB 2, fbB f, .raw (.deferred (some [])), .raw (.loop (rec .ready none)), sB s]) (φ2 := [(0, .yl 16), (1, .ptr 13 []), (2, .ptr 14 []), (4, .nat .i64 0)]) [0, 1, 2, 3, 4, 5, 6, 7, 8, 9, 10, 11, 12, 13, 14, 15, 16, 5] rfl rfl rfl ?_ rfl ?_ ?_ ?_ rfl ?_
 ·exact k29_
 ·exact k142_
 ·exact k20_
 ·exact k142_
 refine WF.loopAt (fun (z : RS) => RInv P v f r z) (fun (z : RS) => [(0, .yl 16), (1, .ptr 13 []), (2, .ptr 14 []), (4, .nat .i64 z.k)]) (fun (z : RS) => [.gone, rB 2 7 8 9 u true, eB 3 6 P.length, mB z.s v z.x 4 17, cB z.s, .gone, prO P, .gone, .gone, .gone, .own 48 (.ptr 1 []) true, .own 4 (.bool false) true, .own 43 (.nat .i64 0) true, pbB 2, fbB f, .raw (.deferred (some [])), .raw (.loop (rec .ready none)), sB z.s]) (fun (z : RS) => f.toNat - z.k) ⟨0, s, x0, [], 0⟩ ⟨Nat.zero_le _, hG, rfl, hr⟩ ?_ ?_ rfl ?_ ?_ rfl ?_
 ·exact k5_
 ·exact k6_
 ·exact k142_
 ·exact k142_
 rintro ⟨k, ⟨at1, en, rg, ce, dr, se⟩, x, tr, a⟩ ⟨hk, hg, hl, hr1⟩
 dsimp only at hk hg hl hr1 ⊢
 cases en
 ·exact d46_
 ·exact d51_
end Go.Proofs.YtjliakjbdcplcaaGreat.Vm
end

import Derived.Test.YtjliakjbdcplcaaGreatT5
import Derived.Test.YtjliakjbdcplcaaGreatT6
import Derived.Test.YtjliakjbdcplcaaGreatT8
import Derived.Test.YtjliakjbdcplcaaGreatT9
set_option linter.unusedSimpArgs false
set_option linter.unusedVariables false
set_option maxRecDepth 100000
set_option maxHeartbeats 4000000
section
namespace Go.Proofs.YtjliakjbdcplcaaGreat.Vm
theorem k82_ {P : Prop} (h : P := by (repeat' (first | exact trivial | exact .inl rfl | exact .inr (.same _) | exact .inr .loose | exact .inr (.arr (by assumption)) | apply And.intro | (exact .inr (.same _)) | (refine .inr (less_mac _ _ _ ?_ ?_ ?_ ?_ ?_ ?_ ?_ ?_) <;> first | rfl | (intro q _ β; rfl) | omega | simp) | (refine .inr (less_set _ _ _ ?_ ?_) <;> first | rfl | (intro q _ β; rfl) | omega | simp)))) : P := h
theorem k83_ {P : Prop} (h : P := by (repeat' (first | exact trivial | exact .inl rfl | exact .inr (.same _) | exact .inr .loose | exact .inr (.arr (by assumption)) | apply And.intro | (exact .inr (.same _)) | (refine .inr (less_mac _ _ _ ?_ ?_ ?_ ?_ ?_ ?_ ?_ ?_) <;> first | rfl | (intro q _ β; rfl) | omega | simp) | (refine .inr (less_set _ _ _ ?_ ?_) <;> first | rfl | (intro q _ β; rfl) | omega | simp) | (exact .inr (hY _))))) : P := h
theorem k84_ {P : Prop} (h : P := by (repeat' (first | exact trivial | exact .inl rfl | exact .inr (.same _) | exact .inr .loose | exact .inr (.arr (by assumption)) | apply And.intro | (exact .inr (.same _)) | (refine .inr (less_mac _ _ _ ?_ ?_ ?_ ?_ ?_ ?_ ?_ ?_) <;> first | rfl | (intro q _ β; rfl) | omega | simp)))) : P := h
theorem k85_ {P : Prop} (h : P := by (simp only [push_cast, ↓JP, Nat.reduceAdd, Nat.reduceEqDiff, Nat.reduceLT, Nat.reduceMul, Nat.reduceLeDiff, reduceCtorEq, reduceIte, ↓JK, cM1, sApply, sDraw, JE, Bool.cond_decide]; rfl)) : P := h
theorem k86_ {P : Prop} (h : P := by (simp only [push_cast, ↓JP, Nat.reduceAdd, Nat.reduceEqDiff, Nat.reduceLT, Nat.reduceMul, Nat.reduceLeDiff, reduceCtorEq, reduceIte, ↓JK, cM1, sApply, sDraw, JE, Bool.cond_decide, decide_eq_true_eq]; rfl)) : P := h
theorem k87_ {P : Prop} (h : P := by (simp only [push_cast, ↓JP, Nat.reduceAdd, Nat.reduceEqDiff, Nat.reduceLT, Nat.reduceMul, Nat.reduceLeDiff, reduceCtorEq, reduceIte, ↓JK, cM1, sApply, sDraw, JE, Bool.cond_decide, h1, h2]; rfl)) : P := h
theorem k88_ {P : Prop} (h : P := by (simp only [push_cast, ↓JP, Nat.reduceAdd, Nat.reduceEqDiff, Nat.reduceLT, Nat.reduceMul, Nat.reduceLeDiff, reduceCtorEq, reduceIte, ↓JK, cM1, sApply, sDraw, JE, Bool.cond_decide, hw]; rfl)) : P := h
theorem k89_ {P : Prop} (h : P := by (simp only [push_cast, ↓JP, Nat.reduceAdd, Nat.reduceEqDiff, Nat.reduceLT, Nat.reduceMul, Nat.reduceLeDiff, reduceCtorEq, reduceIte, ↓JK, cM1, sApply, sDraw, JE, Bool.cond_decide, q0, q1]; rfl)) : P := h
theorem k90_ {P : Prop} (h : P := by (first | exact True.intro | ((try simp only [JS, implies_true, forall_const, z9_, z2_, kndOf]); (first | first | omega | exact ⟨R, S⟩ | (repeat' (first | assumption | exact True.intro | omega | apply And.intro))); done))) : P := h
theorem k91_ {P : Prop} (h : P := by (simp only [push_cast, ↓JP, Nat.reduceAdd, Nat.reduceEqDiff, Nat.reduceLT, Nat.reduceMul, Nat.reduceLeDiff, reduceCtorEq, reduceIte, ↓JK, cM2, sApply, sDraw, JE, Bool.cond_decide, cellF, hcb]; rfl)) : P := h
theorem k92_ {P : Prop} (h : P := by (simp only [push_cast, ↓JP, Nat.reduceAdd, Nat.reduceEqDiff, Nat.reduceLT, Nat.reduceMul, Nat.reduceLeDiff, reduceCtorEq, reduceIte, ↓JK, Bool.cond_decide, q0, q1, q2, q3]; rfl)) : P := h
theorem k93_ {P : Prop} (h : P := by (simp only [push_cast, ↓JP, Nat.reduceAdd, Nat.reduceEqDiff, Nat.reduceLT, Nat.reduceMul, Nat.reduceLeDiff, reduceCtorEq, reduceIte, ↓JK, cD, Bool.cond_decide, kindF_0, kindF_1, kindF_2, kindF_3, kindF_4, kindF_5, kindF_6, kindF_7, kindF_8, kindF_9, kindF_10]; rfl)) : P := h
theorem k94_ {P : Prop} (h : P := by (simp only [push_cast, ↓JP, Nat.reduceAdd, Nat.reduceEqDiff, Nat.reduceLT, Nat.reduceMul, Nat.reduceLeDiff, reduceCtorEq, reduceIte, ↓JK, cD, Bool.cond_decide, kindF_0, kindF_1, kindF_2, kindF_3, kindF_4, kindF_5, kindF_6, kindF_7, kindF_8, kindF_9, kindF_10, ho]; rfl)) : P := h
theorem k95_ {P : Prop} (h : P := by (simp only [push_cast, ↓JP, Nat.reduceAdd, Nat.reduceEqDiff, Nat.reduceLT, Nat.reduceMul, Nat.reduceLeDiff, reduceCtorEq, reduceIte, ↓JK, JM, prR, cSt, mS, macP, doF, JE, inR, inN, Bool.cond_decide]; rfl)) : P := h
end Go.Proofs.YtjliakjbdcplcaaGreat.Vm
end
section
namespace Go.Proofs.YtjliakjbdcplcaaGreat.Vm
open Go.RowKit
attribute [local push_cast] prS zn_ i64S nav_ins xz_ xy_ xx_ xw_ xv_ nav_snd xu_ xt_ xs_ z4_ yh_ yn_ yg_ zw_ zy_ iOf JM rS mS macP aF bF cF putF jumpIfF inR inN
def sApply : yq_ := fun args h m => match args with
 | [v1, v2, v3] => bif isI .u8 v1 && isI .i64 v2 && isI .i64 v3 then some (True, .tup [.int .i64 (yp_ (iOf v1) (iOf v2) (iOf v3)), .int .i64 (yj_ (iOf v1) (iOf v3))], [], []) else none
 | _ => none
theorem sApply_ok : zj_ Tryz.prog 180 sApply := by
 refine ⟨zf_ (by kernel_rfl), fun args h m c v rd wr hs hm hc w0 M β h' w R hrd hwr hst => ?_⟩
 unfold sApply at hs
 split at hs
 ·rename_i v1 v2 v3
  obtain ⟨hb, hs⟩ := zk_ hs
  simp only [Option.some.injEq, Prod.mk.injEq] at hs
  obtain ⟨rfl, rfl, rfl, rfl⟩ := hs
  simp only [Bool.and_eq_true] at hb
  obtain ⟨⟨b1, b2⟩, b3⟩ := hb
  simp only [denL, z7_, z6_, z5_, zr_, zc_ b1, zc_ b2, zc_ b3]
  exact (apply_c (iOf v1) (iOf v2) (iOf v3) w).mono fun e w' he => post_read R (by (repeat' (first | exact trivial | exact rfl | assumption | apply Stable.ite | apply And.intro | intro _ | (simp only [Stable, zd_, i64S, prS, yo_, zn_, sndS, stS, evS, macS]; done)))) rfl he.1 he.2
 ·cases hs
def sDraw : yq_ := fun args h m => match args with
 | [v1, v2, v3, v4] => bif isI .u64 v1 && isI .i64 v2 && isI .i64 v3 && isI .i64 v4 then some ((0 ≤ (iOf v2)) ∧ ((iOf v2) ≤ 65536) ∧ (0 ≤ (iOf v3)) ∧ ((iOf v3) ≤ 281474976710656) ∧ (1 ≤ (iOf v4)), .tup [.int .i64 (drawI (iOf v1) (iOf v2) (iOf v3) (iOf v4)), .int .i64 0], [], []) else none
 | _ => none
theorem sDraw_ok : zj_ Tryz.prog 178 sDraw := by
 refine ⟨zf_ (by kernel_rfl), fun args h m c v rd wr hs hm hc w0 M β h' w R hrd hwr hst => ?_⟩
 unfold sDraw at hs
 split at hs
 ·rename_i v1 v2 v3 v4
  obtain ⟨hb, hs⟩ := zk_ hs
  simp only [Option.some.injEq, Prod.mk.injEq] at hs
  obtain ⟨rfl, rfl, rfl, rfl⟩ := hs
  simp only [Bool.and_eq_true] at hb
  obtain ⟨⟨⟨b1, b2⟩, b3⟩, b4⟩ := hb
  obtain ⟨y1, y2, y3, y4, y5⟩ := hc
  simp only [denL, z7_, z6_, z5_, zr_, zc_ b1, zc_ b2, zc_ b3, zc_ b4]
  exact (draw_ok (iOf v1) (iOf v2) (iOf v3) (iOf v4) w y1 y2 y3 y4 y5).mono fun e w' he => post_read R (by (repeat' (first | exact trivial | exact rfl | assumption | apply Stable.ite | apply And.intro | intro _ | (simp only [Stable, zd_, i64S, prS, yo_, zn_, sndS, stS, evS, macS]; done)))) rfl he.1 he.2
 ·cases hs
theorem less_mac {σ : Nat → Nat} {c k c' k' : Nat} (s' : Sta) (v : Evi) (x : Ins) (hc : σ c = c') (hk : σ k = k') {a d : Int} {e : Bool} {n1 n2 : Nat} {rg : Nat → SV} (h1 : a = s'.at_) (h2 : e = s'.ended) (h3 : ∀ q, q < 8 → ∀ β, (rg q).cl β = [.int .i64 (s'.regs q)]) (h4 : n1 = s'.cells.length) (h5 : d = s'.draws) (h6 : n2 = s'.sends.length) :
  Less (.own 186 (.agg [.agg [.int .i64 a, .bool e, .arr 8 1 rg, .sl c' c' [] 1 0 n1 none, .int .i64 d, .sl k' k' [] 3 0 n2 none], .agg [.int .u64 v.seed, .int .i64 v.process, .int .i64 v.ports, .int .i64 v.look, .int .i64 v.now], yo_ x]) true) ((mB s' v x c k).ren σ) := by
 subst h1 h2 h4 h5 h6 hc hk
 rw [mB_ren]
 refine .val (fun β => ?_) (fun n k f e => by cases e) (fun n k f e => by cases e)
 have h8 : (SV.arr 8 1 rg).cl β = (SV.arr 8 1 fun q => .int .i64 (s'.regs q)).cl β := arrCl fun q hq => by rw [h3 q hq β]; rfl
 simp only [macS, stS, evS, cl_agg, x0_, clL_nil, h8]
theorem less_set {t : Nat} {σ : Nat → Nat} (l : List Int) (r : Nat) (a : Int) {n : Nat} (hn : n = l.length) {g : Nat → SV} (hg : ∀ q, q < l.length → ∀ β, (g q).cl β = [.int .i64 (if q = r then a else l.getD q 0)]) : Less (.own t (.arr n 1 g) false) ((HB.own t (.arr (l.set r a).length 1 (i64S (l.set r a))) false).ren σ) := by
 subst hn
 have e : (l.set r a).length = l.length := by simp
 rw [e]
 refine .val (fun β => arrCl fun q hq => ?_) (fun n1 k1 f1 e => by injection e with e1 e2 e3; subst e1 e2; exact ⟨_, rfl⟩) (fun n1 k1 f1 e => by injection e with e1 e2 e3; subst e1 e2; exact ⟨_, rfl⟩)
 rw [hg q hq β]
 show _ = [Value.int .i64 ((l.set r a).getD q 0)]
 congr 2
 rw [List.getD_eq_getElem?_getD, List.getD_eq_getElem?_getD, List.getElem?_set]
 by_cases h : q = r
 ·subst h; simp [hq]
 ·rw [if_neg h, if_neg (fun e => h e.symm)]
theorem less_snd {t : Nat} {σ : Nat → Nat} (l : List Snd) (y : Snd) {n : Nat} (hn : n = l.length + 1) {g : Nat → SV} (hg : ∀ q, q < l.length + 1 → ∀ β, (g q).cl β = ((l ++ [y]).getD q ⟨0, 0, 0⟩).cells) : Less (.own t (.arr n 3 g) false) ((HB.own t (.arr (l ++ [y]).length 3 (zn_ (l ++ [y]))) false).ren σ) := by
 subst hn
 have e : (l ++ [y]).length = l.length + 1 := by simp
 have e2 : (fun q => (zn_ (l ++ [y]) q).ren σ) = zn_ (l ++ [y]) := by
  funext q; unfold zn_; simp only [sndS, SV.ren, renL]
 simp only [HB.ren, SV.ren, e2, e]
 refine .val (fun β => arrCl fun q hq => ?_) (fun n1 k1 f1 e => by injection e with e1 e2 e3; subst e1 e2; exact ⟨_, rfl⟩) (fun n1 k1 f1 e => by injection e with e1 e2 e3; subst e1 e2; exact ⟨_, rfl⟩)
 rw [hg q hq β]
 unfold zn_
 rw [isSnd_cl (yn_ _), yg_]
set_option linter.defProp false in
def JE := And.intro @sta_eta (And.intro @evi_eta (And.intro @y6_ (And.intro @yy_ (And.intro @ls_i64S2 (And.intro @ls_sndsS (And.intro @ls_sndsS' (And.intro @ls_sndsS2 (And.intro @ls_prS (And.intro @ls_prS' @ls_prS2)))))))))
def kF (k : Int) (mv : Bool) : MF := fun ar s v x => match ar with
 | [] => some (x.op = k ∧ RI x ∧ VOk v ∧ SOk s, fun _ => .int .i64 (doE s v x), doS s v x, x, mv)
 | _ => none
def cM1 : FuncId → Option yq_ := y3_ [(177, rS aF), (175, rS bF), (181, rS cF), (174, mS putF), (179, mS jumpIfF), (180, sApply), (178, sDraw)]
theorem y1_ : ∀ f S, cM1 f = some S → zj_ Tryz.prog f S := zp_ ⟨a_ok, b_ok, c_ok, put_ok, jumpIf_ok, sApply_ok, sDraw_ok, trivial⟩
theorem m_fail : zj_ Tryz.prog 163 (mS (kF 2 false)) := mS_ok (by kernel_rfl) fun ar s v x cond val s' x' mv hF hc => by
 unfold kF at hF
 split at hF
 ·cases hF
  obtain ⟨ho, R, V, S⟩ := hc
  obtain ⟨o0, o1, a0, a1, b0, b1, c0, c1, n0, n1⟩ := R.ok
  have ha := R.a
  have hb := R.b
  have hcc := R.c
  have s0 := S.a0
  have s1 := S.a1
  have d0 := S.d0
  have d1 := S.d1
  have sc := S.c1
  have sn := S.n1
  have v0 := V.p0
  have v1 := V.p1
  have v2 := V.t0
  have v3 := V.t1
  have v4 := V.o0
  have v5 := V.l0
  have hE : doE s v x = 184 := by simp [doE, ho]
  have hS : doS s v x = s := doS_bad (by rw [hE]; decide)
  rw [hE, hS]
  refine ⟨fun _ => rfl, fun _ => trivial, fun _ _ => rfl, fun _ _ _ => trivial, ?_⟩
  refine ze_ (fn := Tryz.f163) 4 3 0 rfl rfl rfl rfl rfl u12_ rfl fun w0 M E hro => ?_
  repeat' (first | refine Ctl.h ?_ | ((with_reducible intro hif); first | (focus (cases hif; done)) | ((try simp only [JH] at hif); try (exfalso; omega))) | ((with_reducible first | apply J22 y1_ za_ | apply J23 fol y1_ za_ | apply J24); (·rfl); (· exact k85_); (try kernel_rfl); try exact yk_) | fail)
  apply At.endsPick [0, 1, 2, 3] za_ (fn := Tryz.f163) (rs := [.tmp 2]) Anc.refl hro (lb_ rfl) rfl
  ·exact yi_
  ·exact xf_
  ·rfl
  ·rfl
  ·rfl
  ·exact k82_
  ·rfl
  ·exact yz_
  ·exact zs_
  ·exact fun β => rfl
  ·exact yz_
 ·cases hF
theorem m_halt : zj_ Tryz.prog 162 (mS (kF 1 false)) := mS_ok (by kernel_rfl) fun ar s v x cond val s' x' mv hF hc => by
 unfold kF at hF
 split at hF
 ·cases hF
  obtain ⟨ho, R, V, S⟩ := hc
  obtain ⟨o0, o1, a0, a1, b0, b1, c0, c1, n0, n1⟩ := R.ok
  have ha := R.a
  have hb := R.b
  have hcc := R.c
  have s0 := S.a0
  have s1 := S.a1
  have d0 := S.d0
  have d1 := S.d1
  have sc := S.c1
  have sn := S.n1
  have v0 := V.p0
  have v1 := V.p1
  have v2 := V.t0
  have v3 := V.t1
  have v4 := V.o0
  have v5 := V.l0
  have hE : doE s v x = 0 := by simp [doE, ho]
  have hS : doS s v x = { s with ended := true } := by simp [doS, hE, ho]
  rw [hE, hS]
  refine ⟨fun _ => rfl, fun _ => trivial, fun _ _ => rfl, fun _ _ _ => trivial, ?_⟩
  refine ze_ (fn := Tryz.f162) 4 7 0 rfl rfl rfl rfl rfl u12_ rfl fun w0 M E hro => ?_
  repeat' (first | refine Ctl.h ?_ | ((with_reducible intro hif); first | (focus (cases hif; done)) | ((try simp only [JH] at hif); try (exfalso; omega))) | ((with_reducible first | apply J22 y1_ za_ | apply J23 fol y1_ za_ | apply J24); (·rfl); (· exact k85_); (try kernel_rfl); try exact yk_) | fail)
  apply At.endsPick [0, 1, 2, 3] za_ (fn := Tryz.f162) (rs := [.tmp 2]) Anc.refl hro (lb_ rfl) rfl
  ·exact yi_
  ·exact xf_
  ·rfl
  ·rfl
  ·rfl
  ·exact k82_
  ·rfl
  ·exact yz_
  ·exact zs_
  ·exact fun β => rfl
  ·exact yz_
 ·cases hF
theorem m_set : zj_ Tryz.prog 164 (mS (kF 3 false)) := mS_ok (by kernel_rfl) fun ar s v x cond val s' x' mv hF hc => by
 unfold kF at hF
 split at hF
 ·cases hF
  obtain ⟨ho, R, V, S⟩ := hc
  obtain ⟨o0, o1, a0, a1, b0, b1, c0, c1, n0, n1⟩ := R.ok
  have ha := R.a
  have hb := R.b
  have hcc := R.c
  have s0 := S.a0
  have s1 := S.a1
  have d0 := S.d0
  have d1 := S.d1
  have sc := S.c1
  have sn := S.n1
  have v0 := V.p0
  have v1 := V.p1
  have v2 := V.t0
  have v3 := V.t1
  have v4 := V.o0
  have v5 := V.l0
  have hE : doE s v x = 0 := by simp [doE, ho]
  have hS : doS s v x = s.put x.a.toNat x.n := by simp [doS, hE, ho]
  rw [hE, hS]
  refine ⟨fun _ => rfl, fun _ => trivial, fun _ _ => rfl, fun _ _ _ => trivial, ?_⟩
  refine ze_ (fn := Tryz.f164) 4 10 0 rfl rfl rfl rfl rfl u12_ rfl fun w0 M E hro => ?_
  repeat' (first | refine Ctl.h ?_ | ((with_reducible intro hif); first | (focus (cases hif; done)) | ((try simp only [JH] at hif); try (exfalso; omega))) | ((with_reducible first | apply J22 y1_ za_ | apply J23 fol y1_ za_ | apply J24); (·rfl); (· exact k85_); (try kernel_rfl); try exact yk_) | fail)
  apply At.endsPick [0, 1, 2, 3] za_ (fn := Tryz.f164) (rs := [.tmp 2]) Anc.refl hro (lb_ rfl) rfl
  ·exact yi_
  ·exact xf_
  ·rfl
  ·rfl
  ·rfl
  ·exact k82_
  ·rfl
  ·exact yz_
  ·exact zs_
  ·exact fun β => rfl
  ·exact yz_
 ·cases hF
theorem m_move : zj_ Tryz.prog 165 (mS (kF 4 false)) := mS_ok (by kernel_rfl) fun ar s v x cond val s' x' mv hF hc => by
 unfold kF at hF
 split at hF
 ·cases hF
  obtain ⟨ho, R, V, S⟩ := hc
  obtain ⟨o0, o1, a0, a1, b0, b1, c0, c1, n0, n1⟩ := R.ok
  have ha := R.a
  have hb := R.b
  have hcc := R.c
  have s0 := S.a0
  have s1 := S.a1
  have d0 := S.d0
  have d1 := S.d1
  have sc := S.c1
  have sn := S.n1
  have v0 := V.p0
  have v1 := V.p1
  have v2 := V.t0
  have v3 := V.t1
  have v4 := V.o0
  have v5 := V.l0
  have hE : doE s v x = 0 := by simp [doE, ho]
  have hS : doS s v x = s.put x.a.toNat (s.regs x.b.toNat) := by simp [doS, hE, ho]
  rw [hE, hS]
  refine ⟨fun _ => rfl, fun _ => trivial, fun _ _ => rfl, fun _ _ _ => trivial, ?_⟩
  refine ze_ (fn := Tryz.f165) 4 7 0 rfl rfl rfl rfl rfl u12_ rfl fun w0 M E hro => ?_
  repeat' (first | refine Ctl.h ?_ | ((with_reducible intro hif); first | (focus (cases hif; done)) | ((try simp only [JH] at hif); try (exfalso; omega))) | ((with_reducible first | apply J22 y1_ za_ | apply J23 fol y1_ za_ | apply J24); (·rfl); (· exact k85_); (try kernel_rfl); try exact yk_) | fail)
  apply At.endsPick [0, 1, 2, 3] za_ (fn := Tryz.f165) (rs := [.tmp 2]) Anc.refl hro (lb_ rfl) rfl
  ·exact yi_
  ·exact xf_
  ·rfl
  ·rfl
  ·rfl
  ·exact k82_
  ·rfl
  ·exact yz_
  ·exact zs_
  ·exact fun β => rfl
  ·exact yz_
 ·cases hF
theorem m_jump : zj_ Tryz.prog 170 (mS (kF 9 false)) := mS_ok (by kernel_rfl) fun ar s v x cond val s' x' mv hF hc => by
 unfold kF at hF
 split at hF
 ·cases hF
  obtain ⟨ho, R, V, S⟩ := hc
  obtain ⟨o0, o1, a0, a1, b0, b1, c0, c1, n0, n1⟩ := R.ok
  have ha := R.a
  have hb := R.b
  have hcc := R.c
  have s0 := S.a0
  have s1 := S.a1
  have d0 := S.d0
  have d1 := S.d1
  have sc := S.c1
  have sn := S.n1
  have v0 := V.p0
  have v1 := V.p1
  have v2 := V.t0
  have v3 := V.t1
  have v4 := V.o0
  have v5 := V.l0
  have hj := R.jmp (.inl ho)
  have hE : doE s v x = 0 := by simp [doE, ho]
  have hS : doS s v x = { s with at_ := x.n } := by simp [doS, hE, ho]
  rw [hE, hS]
  refine ⟨fun _ => rfl, fun _ => trivial, fun _ _ => rfl, fun _ _ _ => trivial, ?_⟩
  refine ze_ (fn := Tryz.f170) 4 5 0 rfl rfl rfl rfl rfl u12_ rfl fun w0 M E hro => ?_
  repeat' (first | refine Ctl.h ?_ | ((with_reducible intro hif); first | (focus (cases hif; done)) | ((try simp only [JH] at hif); try (exfalso; omega))) | ((with_reducible first | apply J22 y1_ za_ | apply J23 fol y1_ za_ | apply J24); (·rfl); (· exact k85_); (try kernel_rfl); try exact yk_) | fail)
  apply At.endsPick [0, 1, 2, 3] za_ (fn := Tryz.f170) (rs := [.tmp 2]) Anc.refl hro (lb_ rfl) rfl
  ·exact yi_
  ·exact xf_
  ·rfl
  ·rfl
  ·rfl
  ·exact k82_
  ·rfl
  ·exact yz_
  ·exact zs_
  ·exact fun β => rfl
  ·exact yz_
 ·cases hF
theorem m_jumpZero : zj_ Tryz.prog 171 (mS (kF 10 false)) := mS_ok (by kernel_rfl) fun ar s v x cond val s' x' mv hF hc => by
 unfold kF at hF
 split at hF
 ·cases hF
  obtain ⟨ho, R, V, S⟩ := hc
  obtain ⟨o0, o1, a0, a1, b0, b1, c0, c1, n0, n1⟩ := R.ok
  have ha := R.a
  have hb := R.b
  have hcc := R.c
  have s0 := S.a0
  have s1 := S.a1
  have d0 := S.d0
  have d1 := S.d1
  have sc := S.c1
  have sn := S.n1
  have v0 := V.p0
  have v1 := V.p1
  have v2 := V.t0
  have v3 := V.t1
  have v4 := V.o0
  have v5 := V.l0
  have hj := R.jmp (.inr (.inl ho))
  have hE : doE s v x = 0 := by simp [doE, ho]
  have hS : doS s v x = { s with at_ := if s.regs x.a.toNat = 0 then x.n else s.at_ + 1 } := by simp [doS, hE, ho]
  rw [hE, hS]
  refine ⟨fun _ => rfl, fun _ => trivial, fun _ _ => rfl, fun _ _ _ => trivial, ?_⟩
  refine ze_ (fn := Tryz.f171) 4 8 0 rfl rfl rfl rfl rfl u12_ rfl fun w0 M E hro => ?_
  repeat' (first | refine Ctl.h ?_ | ((with_reducible intro hif); first | (focus (cases hif; done)) | ((try simp only [JH] at hif); try (exfalso; omega))) | ((with_reducible first | apply J22 y1_ za_ | apply J23 fol y1_ za_ | apply J24); (·rfl); (· exact k86_); (try kernel_rfl); try exact yk_) | fail)
  apply At.endsPick [0, 1, 2, 3] za_ (fn := Tryz.f171) (rs := [.tmp 2]) Anc.refl hro (lb_ rfl) rfl
  ·exact yi_
  ·exact xf_
  ·rfl
  ·rfl
  ·rfl
  ·exact k82_
  ·rfl
  ·exact yz_
  ·exact zs_
  ·exact fun β => rfl
  ·exact yz_
 ·cases hF
theorem m_jumpNeg : zj_ Tryz.prog 172 (mS (kF 11 false)) := mS_ok (by kernel_rfl) fun ar s v x cond val s' x' mv hF hc => by
 unfold kF at hF
 split at hF
 ·cases hF
  obtain ⟨ho, R, V, S⟩ := hc
  obtain ⟨o0, o1, a0, a1, b0, b1, c0, c1, n0, n1⟩ := R.ok
  have ha := R.a
  have hb := R.b
  have hcc := R.c
  have s0 := S.a0
  have s1 := S.a1
  have d0 := S.d0
  have d1 := S.d1
  have sc := S.c1
  have sn := S.n1
  have v0 := V.p0
  have v1 := V.p1
  have v2 := V.t0
  have v3 := V.t1
  have v4 := V.o0
  have v5 := V.l0
  have hj := R.jmp (.inr (.inr ho))
  have hE : doE s v x = 0 := by simp [doE, ho]
  have hS : doS s v x = { s with at_ := if s.regs x.a.toNat < 0 then x.n else s.at_ + 1 } := by simp [doS, hE, ho]
  rw [hE, hS]
  refine ⟨fun _ => rfl, fun _ => trivial, fun _ _ => rfl, fun _ _ _ => trivial, ?_⟩
  refine ze_ (fn := Tryz.f172) 4 8 0 rfl rfl rfl rfl rfl u12_ rfl fun w0 M E hro => ?_
  repeat' (first | refine Ctl.h ?_ | ((with_reducible intro hif); first | (focus (cases hif; done)) | ((try simp only [JH] at hif); try (exfalso; omega))) | ((with_reducible first | apply J22 y1_ za_ | apply J23 fol y1_ za_ | apply J24); (·rfl); (· exact k86_); (try kernel_rfl); try exact yk_) | fail)
  apply At.endsPick [0, 1, 2, 3] za_ (fn := Tryz.f172) (rs := [.tmp 2]) Anc.refl hro (lb_ rfl) rfl
  ·exact yi_
  ·exact xf_
  ·rfl
  ·rfl
  ·rfl
  ·exact k82_
  ·rfl
  ·exact yz_
  ·exact zs_
  ·exact fun β => rfl
  ·exact yz_
 ·cases hF
def cellB (s : Sta) (x : Ins) : Bool := decide (0 ≤ s.regs x.b.toNat ∧ s.regs x.b.toNat < s.cells.length)
def cellF : MF := fun ar s v x => match ar with
 | [] => some (RI x ∧ SOk s, fun c => bif cellB s x then .tup [.ptr c [.i (s.regs x.b.toNat).toNat 1], .int .i64 0] else .tup [.nilp, .int .i64 185], s, x, false)
 | _ => none
theorem cell_ok : zj_ Tryz.prog 176 (mS cellF) := mS_ok (by kernel_rfl) fun ar s v x cond val s' x' mv hF hc => by
 unfold cellF at hF
 split at hF
 ·cases hF
  obtain ⟨R, S⟩ := hc
  obtain ⟨o0, o1, a0, a1, b0, b1, c0, c1, n0, n1⟩ := R.ok
  have hb := R.b
  have sc := S.c1
  have hsl : (s.cells.length : Int) ≤ 1024 := by omega
  refine ⟨fun _ => rfl, fun _ => trivial, fun ρ h0 => ?_, fun h z1 z2 => ?_, ?_⟩
  ·cases cellB s x <;> simp [SV.ren, renL]
  ·cases cellB s x <;> simp [Stable, zd_, z1, z2]
  by_cases h1 : s.regs x.b.toNat < 0
  ·have hcb : cellB s x = false := by unfold cellB; simp; omega
   rw [hcb]
   refine ze_ (fn := Tryz.f176) 4 26 0 rfl rfl rfl rfl rfl u12_ rfl fun w0 M E hro => ?_
   repeat' (first | refine Ctl.h ?_ | ((with_reducible intro hif); first | (focus (cases hif; done)) | ((try simp only [JH] at hif); try (exfalso; omega))) | ((with_reducible first | apply J22 y1_ za_ | apply J23 fol y1_ za_ | apply J24); (·rfl); (· (simp only [push_cast, ↓JP, Nat.reduceAdd, Nat.reduceEqDiff, Nat.reduceLT, Nat.reduceMul, Nat.reduceLeDiff, reduceCtorEq, reduceIte, ↓JK, cM1, sApply, sDraw, JE, Bool.cond_decide, h1]; rfl)); (try kernel_rfl); try exact yk_) | fail)
   apply At.endsPick [0, 1, 2, 3] za_ (fn := Tryz.f176) (rs := [.tmp 2, .tmp 3]) Anc.refl hro (lb_ rfl) rfl
   ·exact yi_
   ·exact xf_
   ·rfl
   ·rfl
   ·rfl
   ·exact k82_
   ·rfl
   ·exact yz_
   ·exact zs_
   ·exact fun β => rfl
   ·exact yz_
  by_cases h2 : (s.cells.length : Int) ≤ s.regs x.b.toNat
  ·have hcb : cellB s x = false := by unfold cellB; simp; omega
   rw [hcb]
   refine ze_ (fn := Tryz.f176) 4 26 0 rfl rfl rfl rfl rfl u12_ rfl fun w0 M E hro => ?_
   repeat' (first | refine Ctl.h ?_ | ((with_reducible intro hif); first | (focus (cases hif; done)) | ((try simp only [JH] at hif); try (exfalso; omega))) | ((with_reducible first | apply J22 y1_ za_ | apply J23 fol y1_ za_ | apply J24); (·rfl); (· exact k87_); (try kernel_rfl); try exact yk_) | fail)
   apply At.endsPick [0, 1, 2, 3] za_ (fn := Tryz.f176) (rs := [.tmp 2, .tmp 3]) Anc.refl hro (lb_ rfl) rfl
   ·exact yi_
   ·exact xf_
   ·rfl
   ·rfl
   ·rfl
   ·exact k82_
   ·rfl
   ·exact yz_
   ·exact zs_
   ·exact fun β => rfl
   ·exact yz_
  ·have hcb : cellB s x = true := by unfold cellB; simp; omega
   rw [hcb]
   have hr : (s.regs x.b.toNat).toNat < s.cells.length := by omega
   refine ze_ (fn := Tryz.f176) 4 26 0 rfl rfl rfl rfl rfl u12_ rfl fun w0 M E hro => ?_
   repeat' (first | refine Ctl.h ?_ | ((with_reducible intro hif); first | (focus (cases hif; done)) | ((try simp only [JH] at hif); try (exfalso; omega))) | ((with_reducible first | apply J22 y1_ za_ | apply J23 fol y1_ za_ | apply J24); (·rfl); (· exact k87_); (try kernel_rfl); try exact yk_) | fail)
   apply At.endsPick [0, 1, 2, 3] za_ (fn := Tryz.f176) (rs := [.tmp 2, .tmp 3]) Anc.refl hro (lb_ rfl) rfl
   ·exact yi_
   ·exact xf_
   ·rfl
   ·rfl
   ·rfl
   ·exact k82_
   ·rfl
   ·exact yz_
   ·exact zs_
   ·exact fun β => rfl
   ·exact yz_
 ·cases hF
def wF : MF := fun ar s v x => match ar with
 | [] => some (32 < x.op ∧ RI x ∧ VOk v ∧ SOk s, fun _ => .int .i64 (doE s v x), doS s v x, x, false)
 | _ => none
theorem m_word : zj_ Tryz.prog 173 (mS wF) := mS_ok (by kernel_rfl) fun ar s v x cond val s' x' mv hF hc => by
 unfold wF at hF
 split at hF
 ·cases hF
  obtain ⟨ho, R, V, S⟩ := hc
  obtain ⟨o0, o1, a0, a1, b0, b1, c0, c1, n0, n1⟩ := R.ok
  have ha := R.a
  have hb := R.b
  have hcc := R.c
  have s0 := S.a0
  have s1 := S.a1
  have d0 := S.d0
  have d1 := S.d1
  have sc := S.c1
  have sn := S.n1
  have v0 := V.p0
  have v1 := V.p1
  have v2 := V.t0
  have v3 := V.t1
  have v4 := V.o0
  have v5 := V.l0
  have hop : x.op - 32 ≤ 255 := by omega
  have hE : doE s v x = yj_ (x.op - 32) (s.regs x.c.toNat) := by
   have h32 : ¬ x.op < 32 := by omega
   simp [doE, show ¬ x.op = 2 by omega, show ¬ x.op = 5 by omega, show ¬ x.op = 6 by omega, show ¬ x.op = 7 by omega, show ¬ x.op = 8 by omega, h32]
  by_cases hw : yj_ (x.op - 32) (s.regs x.c.toNat) = 0
  ·have hS : doS s v x = s.put x.a.toNat (yp_ (x.op - 32) (s.regs x.b.toNat) (s.regs x.c.toNat)) := by
    unfold doS
    rw [hE, hw]
    simp [show ¬ x.op = 1 by omega, show ¬ x.op = 3 by omega, show ¬ x.op = 4 by omega, show ¬ x.op = 5 by omega, show ¬ x.op = 6 by omega, show ¬ x.op = 7 by omega, show ¬ x.op = 8 by omega, show ¬ x.op = 9 by omega, show ¬ x.op = 10 by omega, show ¬ x.op = 11 by omega]
   rw [hE, hw, hS]
   refine ⟨fun _ => rfl, fun _ => trivial, fun _ _ => rfl, fun _ _ _ => trivial, ?_⟩
   refine ze_ (fn := Tryz.f173) 4 25 0 rfl rfl rfl rfl rfl u12_ rfl fun w0 M E hro => ?_
   repeat' (first | refine Ctl.h ?_ | ((with_reducible intro hif); first | (focus (cases hif; done)) | ((try simp only [JH] at hif); try (exfalso; omega))) | ((with_reducible first | apply J22 y1_ za_ | apply J23 fol y1_ za_ | apply J24); (·rfl); (· exact k88_); (try kernel_rfl); try exact yk_) | fail)
   apply At.endsPick [0, 1, 2, 3] za_ (fn := Tryz.f173) (rs := [.tmp 2]) Anc.refl hro (lb_ rfl) rfl
   ·exact yi_
   ·exact xf_
   ·rfl
   ·rfl
   ·rfl
   ·exact k82_
   ·rfl
   ·exact yz_
   ·exact zs_
   ·exact fun β => rfl
   ·exact yz_
  ·have hS : doS s v x = s := doS_bad (by rw [hE]; exact hw)
   rw [hE, hS]
   refine ⟨fun _ => rfl, fun _ => trivial, fun _ _ => rfl, fun _ _ _ => trivial, ?_⟩
   refine ze_ (fn := Tryz.f173) 4 25 0 rfl rfl rfl rfl rfl u12_ rfl fun w0 M E hro => ?_
   repeat' (first | refine Ctl.h ?_ | ((with_reducible intro hif); first | (focus (cases hif; done)) | ((try simp only [JH] at hif); try (exfalso; omega))) | ((with_reducible first | apply J22 y1_ za_ | apply J23 fol y1_ za_ | apply J24); (·rfl); (· exact k88_); (try kernel_rfl); try exact yk_) | fail)
   apply At.endsPick [0, 1, 2, 3] za_ (fn := Tryz.f173) (rs := [.tmp 2]) Anc.refl hro (lb_ rfl) rfl
   ·exact yi_
   ·exact xf_
   ·rfl
   ·rfl
   ·rfl
   ·exact k82_
   ·rfl
   ·exact yz_
   ·exact zs_
   ·exact fun β => rfl
   ·exact yz_
 ·cases hF
-- ----------------------------------------
theorem m_draw : zj_ Tryz.prog 168 (mS (kF 7 false)) := mS_ok (by kernel_rfl) fun ar s v x cond val s' x' mv hF hc => by
 unfold kF at hF
 split at hF
 ·cases hF
  obtain ⟨ho, R, V, S⟩ := hc
  obtain ⟨o0, o1, a0, a1, b0, b1, c0, c1, n0, n1⟩ := R.ok
  have ha := R.a
  have hb := R.b
  have hcc := R.c
  have s0 := S.a0
  have s1 := S.a1
  have d0 := S.d0
  have d1 := S.d1
  have sc := S.c1
  have sn := S.n1
  have v0 := V.p0
  have v1 := V.p1
  have v2 := V.t0
  have v3 := V.t1
  have v4 := V.o0
  have v5 := V.l0
  by_cases q0 : s.regs x.b.toNat < 1
  ·have hE : doE s v x = 186 := by simp [doE, sendE, ho, q0]
   have hS : doS s v x = s := doS_bad (by rw [hE]; decide)
   rw [hE, hS]
   refine ⟨fun _ => rfl, fun _ => trivial, fun _ _ => rfl, fun _ _ _ => trivial, ?_⟩
   refine ze_ (fn := Tryz.f168) 4 49 0 rfl rfl rfl rfl rfl u12_ rfl fun w0 M E hro => ?_
   repeat' (first | refine Ctl.h ?_ | ((with_reducible intro hif); first | (focus (cases hif; done)) | ((try simp only [JH] at hif); try (exfalso; omega))) | ((with_reducible first | apply J22 y1_ za_ | apply J23 fol y1_ za_ | apply J24); (·rfl); (· (simp only [push_cast, ↓JP, Nat.reduceAdd, Nat.reduceEqDiff, Nat.reduceLT, Nat.reduceMul, Nat.reduceLeDiff, reduceCtorEq, reduceIte, ↓JK, cM1, sApply, sDraw, JE, Bool.cond_decide, q0]; rfl)); (try kernel_rfl); try exact yk_) | fail)
   apply At.endsPick [0, 1, 2, 3] za_ (fn := Tryz.f168) (rs := [.tmp 2]) Anc.refl hro (lb_ rfl) rfl
   ·exact yi_
   ·exact xf_
   ·rfl
   ·rfl
   ·rfl
   ·exact k82_
   ·rfl
   ·exact yz_
   ·exact zs_
   ·exact fun β => rfl
   ·exact yz_
  by_cases q1 : s.draws = 1099511627776
  ·have hE : doE s v x = 187 := by simp [doE, sendE, ho, q0, q1]
   have hS : doS s v x = s := doS_bad (by rw [hE]; decide)
   rw [hE, hS]
   refine ⟨fun _ => rfl, fun _ => trivial, fun _ _ => rfl, fun _ _ _ => trivial, ?_⟩
   refine ze_ (fn := Tryz.f168) 4 49 0 rfl rfl rfl rfl rfl u12_ rfl fun w0 M E hro => ?_
   repeat' (first | refine Ctl.h ?_ | ((with_reducible intro hif); first | (focus (cases hif; done)) | ((try simp only [JH] at hif); try (exfalso; omega))) | ((with_reducible first | apply J22 y1_ za_ | apply J23 fol y1_ za_ | apply J24); (·rfl); (· exact k89_); (try kernel_rfl); try exact yk_) | fail)
   apply At.endsPick [0, 1, 2, 3] za_ (fn := Tryz.f168) (rs := [.tmp 2]) Anc.refl hro (lb_ rfl) rfl
   ·exact yi_
   ·exact xf_
   ·rfl
   ·rfl
   ·rfl
   ·exact k82_
   ·rfl
   ·exact yz_
   ·exact zs_
   ·exact fun β => rfl
   ·exact yz_
  have hE : doE s v x = 0 := by simp [doE, sendE, ho, q0, q1]
  have hS : doS s v x = { s.put x.a.toNat (drawI v.seed v.process s.draws (s.regs x.b.toNat)) with draws := s.draws + 1 } := by simp [doS, hE, ho]
  rw [hE, hS]
  refine ⟨fun _ => rfl, fun _ => trivial, fun _ _ => rfl, fun _ _ _ => trivial, ?_⟩
  refine ze_ (fn := Tryz.f168) 4 49 0 rfl rfl rfl rfl rfl u12_ rfl fun w0 M E hro => ?_
  repeat' (first | refine Ctl.h ?_ | ((with_reducible intro hif); first | (focus (cases hif; done)) | ((try simp only [JH] at hif); try (exfalso; omega))) | ((with_reducible first | apply J22 y1_ za_ | apply J23 fol y1_ za_ | apply J24); (·rfl); (· exact k89_); (try kernel_rfl); try exact yk_) | fail)
  apply At.endsPick [0, 1, 2, 3] za_ (fn := Tryz.f168) (rs := [.tmp 2]) Anc.refl hro (lb_ rfl) rfl
  ·exact yi_
  ·exact xf_
  ·rfl
  ·rfl
  ·rfl
  ·exact k82_
  ·rfl
  ·exact yz_
  ·exact zs_
  ·exact fun β => rfl
  ·exact yz_
 ·cases hF
def cM2 : FuncId → Option yq_ := y3_ [(177, rS aF), (175, rS bF), (174, mS putF), (176, mS cellF)]
theorem cM2_ok : ∀ f S, cM2 f = some S → zj_ Tryz.prog f S := zp_ ⟨a_ok, b_ok, put_ok, cell_ok, trivial⟩
theorem m_load : zj_ Tryz.prog 166 (mS (kF 5 false)) := mS_ok (by kernel_rfl) fun ar s v x cond val s' x' mv hF hc => by
 unfold kF at hF
 split at hF
 ·cases hF
  obtain ⟨ho, R, V, S⟩ := hc
  obtain ⟨o0, o1, a0, a1, b0, b1, c0, c1, n0, n1⟩ := R.ok
  have ha := R.a
  have hb := R.b
  have hcc := R.c
  have s0 := S.a0
  have s1 := S.a1
  have d0 := S.d0
  have d1 := S.d1
  have sc := S.c1
  have sn := S.n1
  have v0 := V.p0
  have v1 := V.p1
  have v2 := V.t0
  have v3 := V.t1
  have v4 := V.o0
  have v5 := V.l0
  by_cases h1 : s.regs x.b.toNat < 0 ∨ (s.cells.length : Int) ≤ s.regs x.b.toNat
  ·have hcb : cellB s x = false := by unfold cellB; simp; omega
   have hE : doE s v x = 185 := by simp [doE, ho, h1]
   have hS : doS s v x = s := doS_bad (by rw [hE]; decide)
   rw [hE, hS]
   refine ⟨fun _ => rfl, fun _ => trivial, fun _ _ => rfl, fun _ _ _ => trivial, ?_⟩
   refine ze_ (fn := Tryz.f166) 4 18 0 rfl rfl rfl rfl rfl u12_ rfl fun w0 M E hro => ?_
   repeat' (first | refine Ctl.h ?_ | ((with_reducible intro hif); first | (focus (cases hif; done)) | ((try simp only [JH] at hif); try (exfalso; omega))) | ((with_reducible first | apply J22 cM2_ok za_ | apply J23 fol cM2_ok za_ | apply J24); (·rfl); (· exact k91_); (try kernel_rfl); try exact k90_) | fail)
   apply At.endsPick [0, 1, 2, 3] za_ (fn := Tryz.f166) (rs := [.tmp 2]) Anc.refl hro (lb_ rfl) rfl
   ·exact yi_
   ·exact xf_
   ·rfl
   ·rfl
   ·rfl
   ·exact k82_
   ·rfl
   ·exact yz_
   ·exact zs_
   ·exact fun β => rfl
   ·exact yz_
  ·have hcb : cellB s x = true := by unfold cellB; simp; omega
   have hr : (s.regs x.b.toNat).toNat < s.cells.length := by omega
   have hE : doE s v x = 0 := by simp [doE, ho, h1]
   have hS : doS s v x = s.put x.a.toNat (s.cells.getD (s.regs x.b.toNat).toNat 0) := by simp [doS, hE, ho]
   rw [hE, hS]
   refine ⟨fun _ => rfl, fun _ => trivial, fun _ _ => rfl, fun _ _ _ => trivial, ?_⟩
   refine ze_ (fn := Tryz.f166) 4 18 0 rfl rfl rfl rfl rfl u12_ rfl fun w0 M E hro => ?_
   repeat' (first | refine Ctl.h ?_ | ((with_reducible intro hif); first | (focus (cases hif; done)) | ((try simp only [JH] at hif); try (exfalso; omega))) | ((with_reducible first | apply J22 cM2_ok za_ | apply J23 fol cM2_ok za_ | apply J24); (·rfl); (· exact k91_); (try kernel_rfl); try exact k90_) | fail)
   apply At.endsPick [0, 1, 2, 3] za_ (fn := Tryz.f166) (rs := [.tmp 2]) Anc.refl hro (lb_ rfl) rfl
   ·exact yi_
   ·exact xf_
   ·rfl
   ·rfl
   ·rfl
   ·exact k82_
   ·rfl
   ·exact yz_
   ·exact zs_
   ·exact fun β => rfl
   ·exact yz_
 ·cases hF
theorem m_store : zj_ Tryz.prog 167 (mS (kF 6 false)) := mS_ok (by kernel_rfl) fun ar s v x cond val s' x' mv hF hc => by
 unfold kF at hF
 split at hF
 ·cases hF
  obtain ⟨ho, R, V, S⟩ := hc
  obtain ⟨o0, o1, a0, a1, b0, b1, c0, c1, n0, n1⟩ := R.ok
  have ha := R.a
  have hb := R.b
  have hcc := R.c
  have s0 := S.a0
  have s1 := S.a1
  have d0 := S.d0
  have d1 := S.d1
  have sc := S.c1
  have sn := S.n1
  have v0 := V.p0
  have v1 := V.p1
  have v2 := V.t0
  have v3 := V.t1
  have v4 := V.o0
  have v5 := V.l0
  by_cases h1 : s.regs x.b.toNat < 0 ∨ (s.cells.length : Int) ≤ s.regs x.b.toNat
  ·have hcb : cellB s x = false := by unfold cellB; simp; omega
   have hE : doE s v x = 185 := by simp [doE, ho, h1]
   have hS : doS s v x = s := doS_bad (by rw [hE]; decide)
   rw [hE, hS]
   refine ⟨fun _ => rfl, fun _ => trivial, fun _ _ => rfl, fun _ _ _ => trivial, ?_⟩
   refine ze_ (fn := Tryz.f167) 4 26 0 rfl rfl rfl rfl rfl u12_ rfl fun w0 M E hro => ?_
   repeat' (first | refine Ctl.h ?_ | ((with_reducible intro hif); first | (focus (cases hif; done)) | ((try simp only [JH] at hif); try (exfalso; omega))) | ((with_reducible first | apply J22 cM2_ok za_ | apply J23 fol cM2_ok za_ | apply J24); (·rfl); (· exact k91_); (try kernel_rfl); try exact k90_) | fail)
   apply At.endsPick [0, 1, 2, 3] za_ (fn := Tryz.f167) (rs := [.tmp 2]) Anc.refl hro (lb_ rfl) rfl
   ·exact yi_
   ·exact xf_
   ·rfl
   ·rfl
   ·rfl
   ·exact k82_
   ·rfl
   ·exact yz_
   ·exact zs_
   ·exact fun β => rfl
   ·exact yz_
  ·have hcb : cellB s x = true := by unfold cellB; simp; omega
   have hr : (s.regs x.b.toNat).toNat < s.cells.length := by omega
   have hE : doE s v x = 0 := by simp [doE, ho, h1]
   have hS : doS s v x = { s with cells := s.cells.set (s.regs x.b.toNat).toNat (s.regs x.a.toNat), at_ := s.at_ + 1 } := by simp [doS, hE, ho]
   rw [hE, hS]
   refine ⟨fun _ => rfl, fun _ => trivial, fun _ _ => rfl, fun _ _ _ => trivial, ?_⟩
   refine ze_ (fn := Tryz.f167) 4 26 0 rfl rfl rfl rfl rfl u12_ rfl fun w0 M E hro => ?_
   repeat' (first | refine Ctl.h ?_ | ((with_reducible intro hif); first | (focus (cases hif; done)) | ((try simp only [JH] at hif); try (exfalso; omega))) | ((with_reducible first | apply J22 cM2_ok za_ | apply J23 fol cM2_ok za_ | apply J24); (·rfl); (· exact k91_); (try kernel_rfl); try exact k90_) | fail)
   apply At.endsPick [0, 1, 2, 3] za_ (fn := Tryz.f167) (rs := [.tmp 2]) Anc.refl hro (lb_ rfl) rfl
   ·exact yi_
   ·exact xf_
   ·rfl
   ·rfl
   ·rfl
   ·exact k82_
   ·rfl
   ·exact yz_
   ·exact zs_
   ·exact fun β => rfl
   ·exact yz_
 ·cases hF
end Go.Proofs.YtjliakjbdcplcaaGreat.Vm
end
section
namespace Go.Proofs.YtjliakjbdcplcaaGreat.Vm
open Go.RowKit
attribute [local push_cast] prS zn_ i64S nav_ins xz_ xy_ xx_ xw_ xv_ nav_snd xu_ xt_ xs_ z4_ yh_ yn_ yg_ zw_ zy_ iOf JM cM1 rS mS macP aF bF cF putF jumpIfF sApply sDraw JE inR inN
theorem snd_app {l : List Snd} {y : Snd} {q : Nat} (hq : q < l.length + 1) (z : SV) (β : Env) : (SV.ite (decide (q < l.length)) (sndS (l.getD q ⟨0, 0, 0⟩)) ([sndS y].getD (q - l.length) z)).cl β = ((l ++ [y]).getD q ⟨0, 0, 0⟩).cells := by
 rw [y7_]
 by_cases h : q < l.length
 ·simp only [h, decide_true, cond_true, List.getD_eq_getElem?_getD, List.getElem?_append_left h]
  rw [isSnd_cl (yn_ _), yg_]
 ·obtain rfl : q = l.length := by omega
  simp only [Nat.lt_irrefl, decide_false, cond_false, Nat.sub_self, List.getD_eq_getElem?_getD, List.getElem?_append_right (Nat.le_refl _), List.getElem?_cons_zero, Option.getD_some]
  rw [isSnd_cl (yn_ _), yg_]
theorem m_send : zj_ Tryz.prog 169 (mS (kF 8 true)) := mS_ok (by kernel_rfl) fun ar s v x cond val s' x' mv hF hc => by
 unfold kF at hF
 split at hF
 ·cases hF
  obtain ⟨ho, R, V, S⟩ := hc
  obtain ⟨o0, o1, a0, a1, b0, b1, c0, c1, n0, n1⟩ := R.ok
  have ha := R.a
  have hb := R.b
  have hcc := R.c
  have s0 := S.a0
  have s1 := S.a1
  have d0 := S.d0
  have d1 := S.d1
  have sc := S.c1
  have sn := S.n1
  have v0 := V.p0
  have v1 := V.p1
  have v2 := V.t0
  have v3 := V.t1
  have v4 := V.o0
  have v5 := V.l0
  by_cases q0 : v.ports ≤ x.n
  ·have hE : doE s v x = 188 := by simp [doE, sendE, ho, q0]
   have hS : doS s v x = s := doS_bad (by rw [hE]; decide)
   rw [hE, hS]
   refine ⟨fun _ => rfl, fun _ => trivial, fun _ _ => rfl, fun _ _ _ => trivial, ?_⟩
   refine ze_ (fn := Tryz.f169) 4 72 0 rfl rfl rfl rfl rfl u12_ rfl fun w0 M E hro => ?_
   repeat' (first | refine Ctl.h ?_ | ((with_reducible intro hif); first | (focus (cases hif; done)) | ((try simp only [JH] at hif); try (exfalso; omega))) | ((with_reducible first | apply J22 y1_ za_ | apply J23 fol y1_ za_ | apply J24); (·rfl); (· (simp only [push_cast, ↓JP, Nat.reduceAdd, Nat.reduceEqDiff, Nat.reduceLT, Nat.reduceMul, Nat.reduceLeDiff, reduceCtorEq, reduceIte, ↓JK, Bool.cond_decide, q0]; rfl)); (try kernel_rfl); try exact yk_) | fail)
   apply At.endsPick [0, 1, 2, 3, 3] za_ (fn := Tryz.f169) (rs := [.tmp 2]) Anc.refl hro (lb_ rfl) rfl
   ·exact yi_
   ·exact xf_
   ·rfl
   ·rfl
   ·rfl
   ·exact k83_
   ·rfl
   ·exact yz_
   ·exact zs_
   ·exact fun β => rfl
   ·exact yz_
  by_cases q1 : s.regs x.a.toNat < v.look
  ·have hE : doE s v x = 189 := by simp [doE, sendE, ho, q0, q1]
   have hS : doS s v x = s := doS_bad (by rw [hE]; decide)
   rw [hE, hS]
   refine ⟨fun _ => rfl, fun _ => trivial, fun _ _ => rfl, fun _ _ _ => trivial, ?_⟩
   refine ze_ (fn := Tryz.f169) 4 72 0 rfl rfl rfl rfl rfl u12_ rfl fun w0 M E hro => ?_
   repeat' (first | refine Ctl.h ?_ | ((with_reducible intro hif); first | (focus (cases hif; done)) | ((try simp only [JH] at hif); try (exfalso; omega))) | ((with_reducible first | apply J22 y1_ za_ | apply J23 fol y1_ za_ | apply J24); (·rfl); (· (simp only [push_cast, ↓JP, Nat.reduceAdd, Nat.reduceEqDiff, Nat.reduceLT, Nat.reduceMul, Nat.reduceLeDiff, reduceCtorEq, reduceIte, ↓JK, Bool.cond_decide, q0, q1]; rfl)); (try kernel_rfl); try exact yk_) | fail)
   apply At.endsPick [0, 1, 2, 3, 3] za_ (fn := Tryz.f169) (rs := [.tmp 2]) Anc.refl hro (lb_ rfl) rfl
   ·exact yi_
   ·exact xf_
   ·rfl
   ·rfl
   ·rfl
   ·exact k83_
   ·rfl
   ·exact yz_
   ·exact zs_
   ·exact fun β => rfl
   ·exact yz_
  by_cases q2 : 281474976710656 - v.now < s.regs x.a.toNat
  ·have hE : doE s v x = 1800 := by simp [doE, sendE, ho, q0, q1, q2]
   have hS : doS s v x = s := doS_bad (by rw [hE]; decide)
   rw [hE, hS]
   refine ⟨fun _ => rfl, fun _ => trivial, fun _ _ => rfl, fun _ _ _ => trivial, ?_⟩
   refine ze_ (fn := Tryz.f169) 4 72 0 rfl rfl rfl rfl rfl u12_ rfl fun w0 M E hro => ?_
   repeat' (first | refine Ctl.h ?_ | ((with_reducible intro hif); first | (focus (cases hif; done)) | ((try simp only [JH] at hif); try (exfalso; omega))) | ((with_reducible first | apply J22 y1_ za_ | apply J23 fol y1_ za_ | apply J24); (·rfl); (· (simp only [push_cast, ↓JP, Nat.reduceAdd, Nat.reduceEqDiff, Nat.reduceLT, Nat.reduceMul, Nat.reduceLeDiff, reduceCtorEq, reduceIte, ↓JK, Bool.cond_decide, q0, q1, q2]; rfl)); (try kernel_rfl); try exact yk_) | fail)
   apply At.endsPick [0, 1, 2, 3, 3] za_ (fn := Tryz.f169) (rs := [.tmp 2]) Anc.refl hro (lb_ rfl) rfl
   ·exact yi_
   ·exact xf_
   ·rfl
   ·rfl
   ·rfl
   ·exact k83_
   ·rfl
   ·exact yz_
   ·exact zs_
   ·exact fun β => rfl
   ·exact yz_
  by_cases q3 : 256 ≤ s.sends.length
  ·have hE : doE s v x = 1801 := by simp [doE, sendE, ho, q0, q1, q2, q3]
   have hS : doS s v x = s := doS_bad (by rw [hE]; decide)
   rw [hE, hS]
   refine ⟨fun _ => rfl, fun _ => trivial, fun _ _ => rfl, fun _ _ _ => trivial, ?_⟩
   refine ze_ (fn := Tryz.f169) 4 72 0 rfl rfl rfl rfl rfl u12_ rfl fun w0 M E hro => ?_
   repeat' (first | refine Ctl.h ?_ | ((with_reducible intro hif); first | (focus (cases hif; done)) | ((try simp only [JH] at hif); try (exfalso; omega))) | ((with_reducible first | apply J22 y1_ za_ | apply J23 fol y1_ za_ | apply J24); (·rfl); (· exact k92_); (try kernel_rfl); try exact yk_) | fail)
   apply At.endsPick [0, 1, 2, 3, 3] za_ (fn := Tryz.f169) (rs := [.tmp 2]) Anc.refl hro (lb_ rfl) rfl
   ·exact yi_
   ·exact xf_
   ·rfl
   ·rfl
   ·rfl
   ·exact k83_
   ·rfl
   ·exact yz_
   ·exact zs_
   ·exact fun β => rfl
   ·exact yz_
  have hE : doE s v x = 0 := by simp [doE, sendE, ho, q0, q1, q2, q3]
  have hS : doS s v x = { s with at_ := s.at_ + 1, sends := s.sends ++ [⟨x.n, s.regs x.a.toNat, s.regs x.b.toNat⟩] } := by simp [doS, hE, ho]
  rw [hE, hS]
  refine ⟨fun _ => rfl, fun _ => trivial, fun _ _ => rfl, fun _ _ _ => trivial, ?_⟩
  have hx := R.snd ho
  have hY : ∀ σ, Less (.own 125 (.arr (s.sends.length + 1) 3 fun q => SV.ite (decide (q < s.sends.length)) (sndS (s.sends.getD q ⟨0, 0, 0⟩)) ([SV.agg [.int .i64 x.n, .int .i64 (s.regs x.a.toNat), .int .i64 (s.regs x.b.toNat)]].getD (q - s.sends.length) (.agg [.nat .i64 0, .nat .i64 0, .nat .i64 0]))) false) ((HB.own 125 (.arr (s.sends ++ [(⟨x.n, s.regs x.a.toNat, s.regs x.b.toNat⟩ : Snd)]).length 3 (zn_ (s.sends ++ [(⟨x.n, s.regs x.a.toNat, s.regs x.b.toNat⟩ : Snd)]))) false).ren σ) := fun σ => less_snd s.sends ⟨x.n, s.regs x.a.toNat, s.regs x.b.toNat⟩ rfl fun q hq β => snd_app (y := ⟨x.n, s.regs x.a.toNat, s.regs x.b.toNat⟩) hq _ β
  refine ze_ (fn := Tryz.f169) 4 72 0 rfl rfl rfl rfl rfl u12_ rfl fun w0 M E hro => ?_
  repeat' (first | refine Ctl.h ?_ | ((with_reducible intro hif); first | (focus (cases hif; done)) | ((try simp only [JH] at hif); try (exfalso; omega))) | ((with_reducible first | apply J22 y1_ za_ | apply J23 fol y1_ za_ | apply J24); (·rfl); (· exact k92_); (try kernel_rfl); try exact yk_) | fail)
  apply At.endsPick [0, 1, 2, 3, 5] za_ (fn := Tryz.f169) (rs := [.tmp 2]) Anc.refl hro (lb_ rfl) rfl
  ·exact yi_
  ·exact xf_
  ·rfl
  ·rfl
  ·rfl
  ·exact k83_
  ·rfl
  ·exact yz_
  ·exact zs_
  ·exact fun β => rfl
  ·exact yz_
 ·cases hF
end Go.Proofs.YtjliakjbdcplcaaGreat.Vm
end
section
namespace Go.Proofs.YtjliakjbdcplcaaGreat.Vm
open Go.RowKit
attribute [local push_cast] prS zn_ i64S nav_ins xz_ xy_ xx_ xw_ xv_ nav_snd xu_ xt_ xs_ z4_ yh_ yn_ yg_ zw_ zy_ iOf JM mS macP kF wF JE inR inN
def cD : FuncId → Option yq_ := y3_ [(162, mS (kF 1 false)), (163, mS (kF 2 false)), (164, mS (kF 3 false)), (165, mS (kF 4 false)), (166, mS (kF 5 false)), (167, mS (kF 6 false)), (168, mS (kF 7 false)), (169, mS (kF 8 true)), (170, mS (kF 9 false)), (171, mS (kF 10 false)), (172, mS (kF 11 false)), (173, mS wF)]
theorem xi_ : ∀ f S, cD f = some S → zj_ Tryz.prog f S := zp_ ⟨m_halt, m_fail, m_set, m_move, m_load, m_store, m_draw, m_send, m_jump, m_jumpZero, m_jumpNeg, m_word, trivial⟩
def kindF : Nat → SV := fun j => (SV.ite (decide (j = 10)) (.agg [.nat .u8 11, .fn 172 []]) (SV.ite (decide (j = 9)) (.agg [.nat .u8 10, .fn 171 []]) (SV.ite (decide (j = 8)) (.agg [.nat .u8 9, .fn 170 []]) (SV.ite (decide (j = 7)) (.agg [.nat .u8 8, .fn 169 []]) (SV.ite (decide (j = 6)) (.agg [.nat .u8 7, .fn 168 []]) (SV.ite (decide (j = 5)) (.agg [.nat .u8 6, .fn 167 []]) (SV.ite (decide (j = 4)) (.agg [.nat .u8 5, .fn 166 []]) (SV.ite (decide (j = 3)) (.agg [.nat .u8 4, .fn 165 []]) (SV.ite (decide (j = 2)) (.agg [.nat .u8 3, .fn 164 []]) (SV.ite (decide (j = 1)) (.agg [.nat .u8 2, .fn 163 []]) (SV.ite (decide (j = 0)) (.agg [.nat .u8 1, .fn 162 []]) (.agg [.nat .u8 0, .nilf]))))))))))))
theorem kindF_0 : kindF 0 = .agg [.nat .u8 1, .fn 162 []] := rfl
theorem kindF_1 : kindF 1 = .agg [.nat .u8 2, .fn 163 []] := rfl
theorem kindF_2 : kindF 2 = .agg [.nat .u8 3, .fn 164 []] := rfl
theorem kindF_3 : kindF 3 = .agg [.nat .u8 4, .fn 165 []] := rfl
theorem kindF_4 : kindF 4 = .agg [.nat .u8 5, .fn 166 []] := rfl
theorem kindF_5 : kindF 5 = .agg [.nat .u8 6, .fn 167 []] := rfl
theorem kindF_6 : kindF 6 = .agg [.nat .u8 7, .fn 168 []] := rfl
theorem kindF_7 : kindF 7 = .agg [.nat .u8 8, .fn 169 []] := rfl
theorem kindF_8 : kindF 8 = .agg [.nat .u8 9, .fn 170 []] := rfl
theorem kindF_9 : kindF 9 = .agg [.nat .u8 10, .fn 171 []] := rfl
theorem kindF_10 : kindF 10 = .agg [.nat .u8 11, .fn 172 []] := rfl
def doF : MF := fun ar s v x => match ar with
 | [] => some (RI x ∧ VOk v ∧ SOk s, fun _ => .int .i64 (doE s v x), doS s v x, x, true)
 | _ => none
theorem m_do : zj_ Tryz.prog 157 (mS doF) := mS_ok (by kernel_rfl) fun ar s v x cond val s' x' mv hF hc => by
 unfold doF at hF
 split at hF
 ·cases hF
  obtain ⟨R, V, S⟩ := hc
  obtain ⟨o0, o1, _, _, _, _, _, _, _, _⟩ := R.ok
  have hcls := R.cls
  refine ⟨fun _ => rfl, fun _ => trivial, fun _ _ => rfl, fun _ _ _ => trivial, ?_⟩
  refine ze_ (fn := Tryz.f157) 4 35 0 rfl rfl rfl rfl rfl u12_ rfl fun w0 M E hro => ?_
  repeat' (first | refine Ctl.h ?_ | ((with_reducible intro hif); first | (focus (cases hif; done)) | ((try simp only [JH] at hif); try (exfalso; omega))) | ((with_reducible first | apply J22 xi_ za_ | apply J23 fol xi_ za_ | apply J24); (·rfl); (· exact k93_); (try kernel_rfl); try exact yk_) | fail)
  refine WF.loopAt (fun k => k ≤ 11 ∧ ∀ j : Nat, j < k → x.op ≠ (j : Int) + 1) (fun k => [(0, .ptr 1 []), (16, .arr 11 2 kindF), (17, .nat .i64 k)]) (fun k => [.gone, mB s v x 2 3, cB s, sB s]) (fun k => 11 - k) 0 ⟨by omega, fun j h1 => by omega⟩ ?_ ?_ rfl ?_ ?_ rfl ?_
  ·exact k5_
  ·exact k6_
  ·exact yz_
  ·exact yz_
  rintro k ⟨hk, hop⟩
  have hk12 : k = 0 ∨ k = 1 ∨ k = 2 ∨ k = 3 ∨ k = 4 ∨ k = 5 ∨ k = 6 ∨ k = 7 ∨ k = 8 ∨ k = 9 ∨ k = 10 ∨ k = 11 := by omega
  rcases hk12 with rfl | rfl | rfl | rfl | rfl | rfl | rfl | rfl | rfl | rfl | rfl | rfl
  ·by_cases ho : x.op = 1
   ·repeat' (first | refine Ctl.h ?_ | ((with_reducible intro hif); first | (focus (cases hif; done)) | ((try simp only [JH] at hif); try (exfalso; omega))) | ((with_reducible first | apply J22 xi_ za_ | apply J23 fol xi_ za_ | apply J24); (·rfl); (· exact k94_); (try kernel_rfl); try exact yk_) | fail)
    apply At.endsPick [0, 1, 2, 3, 3] za_ (fn := Tryz.f157) (rs := [.tmp 2]) Anc.refl hro (lb_ rfl) rfl
    ·exact yi_
    ·exact xf_
    ·rfl
    ·rfl
    ·rfl
    ·exact k84_
    ·rfl
    ·exact yz_
    ·exact zs_
    ·exact fun β => rfl
    ·exact yz_
   ·repeat' (first | refine Ctl.h ?_ | ((with_reducible intro hif); first | (focus (cases hif; done)) | ((try simp only [JH] at hif); try (exfalso; omega))) | ((with_reducible first | apply J22 xi_ za_ | apply J23 fol xi_ za_ | apply J24); (·rfl); (· exact k94_); (try kernel_rfl); try exact yk_) | fail)
    refine At.next 1 ?_ ?_ ?_ rfl ?_ ?_ rfl
    ·refine ⟨⟨by omega, fun j h1 => ?_⟩, by omega⟩; by_cases e : j = 0; (subst e; exact ho); exact hop j (by omega)
    ·exact k5_
    ·exact k6_
    ·exact yz_
    ·exact yz_
  ·by_cases ho : x.op = 2
   ·repeat' (first | refine Ctl.h ?_ | ((with_reducible intro hif); first | (focus (cases hif; done)) | ((try simp only [JH] at hif); try (exfalso; omega))) | ((with_reducible first | apply J22 xi_ za_ | apply J23 fol xi_ za_ | apply J24); (·rfl); (· exact k94_); (try kernel_rfl); try exact yk_) | fail)
    apply At.endsPick [0, 1, 2, 3, 3] za_ (fn := Tryz.f157) (rs := [.tmp 2]) Anc.refl hro (lb_ rfl) rfl
    ·exact yi_
    ·exact xf_
    ·rfl
    ·rfl
    ·rfl
    ·exact k84_
    ·rfl
    ·exact yz_
    ·exact zs_
    ·exact fun β => rfl
    ·exact yz_
   ·repeat' (first | refine Ctl.h ?_ | ((with_reducible intro hif); first | (focus (cases hif; done)) | ((try simp only [JH] at hif); try (exfalso; omega))) | ((with_reducible first | apply J22 xi_ za_ | apply J23 fol xi_ za_ | apply J24); (·rfl); (· exact k94_); (try kernel_rfl); try exact yk_) | fail)
    refine At.next 2 ?_ ?_ ?_ rfl ?_ ?_ rfl
    ·refine ⟨⟨by omega, fun j h1 => ?_⟩, by omega⟩; by_cases e : j = 1; (subst e; exact ho); exact hop j (by omega)
    ·exact k5_
    ·exact k6_
    ·exact yz_
    ·exact yz_
  ·by_cases ho : x.op = 3
   ·repeat' (first | refine Ctl.h ?_ | ((with_reducible intro hif); first | (focus (cases hif; done)) | ((try simp only [JH] at hif); try (exfalso; omega))) | ((with_reducible first | apply J22 xi_ za_ | apply J23 fol xi_ za_ | apply J24); (·rfl); (· exact k94_); (try kernel_rfl); try exact yk_) | fail)
    apply At.endsPick [0, 1, 2, 3, 3] za_ (fn := Tryz.f157) (rs := [.tmp 2]) Anc.refl hro (lb_ rfl) rfl
    ·exact yi_
    ·exact xf_
    ·rfl
    ·rfl
    ·rfl
    ·exact k84_
    ·rfl
    ·exact yz_
    ·exact zs_
    ·exact fun β => rfl
    ·exact yz_
   ·repeat' (first | refine Ctl.h ?_ | ((with_reducible intro hif); first | (focus (cases hif; done)) | ((try simp only [JH] at hif); try (exfalso; omega))) | ((with_reducible first | apply J22 xi_ za_ | apply J23 fol xi_ za_ | apply J24); (·rfl); (· exact k94_); (try kernel_rfl); try exact yk_) | fail)
    refine At.next 3 ?_ ?_ ?_ rfl ?_ ?_ rfl
    ·refine ⟨⟨by omega, fun j h1 => ?_⟩, by omega⟩; by_cases e : j = 2; (subst e; exact ho); exact hop j (by omega)
    ·exact k5_
    ·exact k6_
    ·exact yz_
    ·exact yz_
  ·by_cases ho : x.op = 4
   ·repeat' (first | refine Ctl.h ?_ | ((with_reducible intro hif); first | (focus (cases hif; done)) | ((try simp only [JH] at hif); try (exfalso; omega))) | ((with_reducible first | apply J22 xi_ za_ | apply J23 fol xi_ za_ | apply J24); (·rfl); (· exact k94_); (try kernel_rfl); try exact yk_) | fail)
    apply At.endsPick [0, 1, 2, 3, 3] za_ (fn := Tryz.f157) (rs := [.tmp 2]) Anc.refl hro (lb_ rfl) rfl
    ·exact yi_
    ·exact xf_
    ·rfl
    ·rfl
    ·rfl
    ·exact k84_
    ·rfl
    ·exact yz_
    ·exact zs_
    ·exact fun β => rfl
    ·exact yz_
   ·repeat' (first | refine Ctl.h ?_ | ((with_reducible intro hif); first | (focus (cases hif; done)) | ((try simp only [JH] at hif); try (exfalso; omega))) | ((with_reducible first | apply J22 xi_ za_ | apply J23 fol xi_ za_ | apply J24); (·rfl); (· exact k94_); (try kernel_rfl); try exact yk_) | fail)
    refine At.next 4 ?_ ?_ ?_ rfl ?_ ?_ rfl
    ·refine ⟨⟨by omega, fun j h1 => ?_⟩, by omega⟩; by_cases e : j = 3; (subst e; exact ho); exact hop j (by omega)
    ·exact k5_
    ·exact k6_
    ·exact yz_
    ·exact yz_
  ·by_cases ho : x.op = 5
   ·repeat' (first | refine Ctl.h ?_ | ((with_reducible intro hif); first | (focus (cases hif; done)) | ((try simp only [JH] at hif); try (exfalso; omega))) | ((with_reducible first | apply J22 xi_ za_ | apply J23 fol xi_ za_ | apply J24); (·rfl); (· exact k94_); (try kernel_rfl); try exact yk_) | fail)
    apply At.endsPick [0, 1, 2, 3, 3] za_ (fn := Tryz.f157) (rs := [.tmp 2]) Anc.refl hro (lb_ rfl) rfl
    ·exact yi_
    ·exact xf_
    ·rfl
    ·rfl
    ·rfl
    ·exact k84_
    ·rfl
    ·exact yz_
    ·exact zs_
    ·exact fun β => rfl
    ·exact yz_
   ·repeat' (first | refine Ctl.h ?_ | ((with_reducible intro hif); first | (focus (cases hif; done)) | ((try simp only [JH] at hif); try (exfalso; omega))) | ((with_reducible first | apply J22 xi_ za_ | apply J23 fol xi_ za_ | apply J24); (·rfl); (· exact k94_); (try kernel_rfl); try exact yk_) | fail)
    refine At.next 5 ?_ ?_ ?_ rfl ?_ ?_ rfl
    ·refine ⟨⟨by omega, fun j h1 => ?_⟩, by omega⟩; by_cases e : j = 4; (subst e; exact ho); exact hop j (by omega)
    ·exact k5_
    ·exact k6_
    ·exact yz_
    ·exact yz_
  ·by_cases ho : x.op = 6
   ·repeat' (first | refine Ctl.h ?_ | ((with_reducible intro hif); first | (focus (cases hif; done)) | ((try simp only [JH] at hif); try (exfalso; omega))) | ((with_reducible first | apply J22 xi_ za_ | apply J23 fol xi_ za_ | apply J24); (·rfl); (· exact k94_); (try kernel_rfl); try exact yk_) | fail)
    apply At.endsPick [0, 1, 2, 3, 3] za_ (fn := Tryz.f157) (rs := [.tmp 2]) Anc.refl hro (lb_ rfl) rfl
    ·exact yi_
    ·exact xf_
    ·rfl
    ·rfl
    ·rfl
    ·exact k84_
    ·rfl
    ·exact yz_
    ·exact zs_
    ·exact fun β => rfl
    ·exact yz_
   ·repeat' (first | refine Ctl.h ?_ | ((with_reducible intro hif); first | (focus (cases hif; done)) | ((try simp only [JH] at hif); try (exfalso; omega))) | ((with_reducible first | apply J22 xi_ za_ | apply J23 fol xi_ za_ | apply J24); (·rfl); (· exact k94_); (try kernel_rfl); try exact yk_) | fail)
    refine At.next 6 ?_ ?_ ?_ rfl ?_ ?_ rfl
    ·refine ⟨⟨by omega, fun j h1 => ?_⟩, by omega⟩; by_cases e : j = 5; (subst e; exact ho); exact hop j (by omega)
    ·exact k5_
    ·exact k6_
    ·exact yz_
    ·exact yz_
  ·by_cases ho : x.op = 7
   ·repeat' (first | refine Ctl.h ?_ | ((with_reducible intro hif); first | (focus (cases hif; done)) | ((try simp only [JH] at hif); try (exfalso; omega))) | ((with_reducible first | apply J22 xi_ za_ | apply J23 fol xi_ za_ | apply J24); (·rfl); (· exact k94_); (try kernel_rfl); try exact yk_) | fail)
    apply At.endsPick [0, 1, 2, 3, 3] za_ (fn := Tryz.f157) (rs := [.tmp 2]) Anc.refl hro (lb_ rfl) rfl
    ·exact yi_
    ·exact xf_
    ·rfl
    ·rfl
    ·rfl
    ·exact k84_
    ·rfl
    ·exact yz_
    ·exact zs_
    ·exact fun β => rfl
    ·exact yz_
   ·repeat' (first | refine Ctl.h ?_ | ((with_reducible intro hif); first | (focus (cases hif; done)) | ((try simp only [JH] at hif); try (exfalso; omega))) | ((with_reducible first | apply J22 xi_ za_ | apply J23 fol xi_ za_ | apply J24); (·rfl); (· exact k94_); (try kernel_rfl); try exact yk_) | fail)
    refine At.next 7 ?_ ?_ ?_ rfl ?_ ?_ rfl
    ·refine ⟨⟨by omega, fun j h1 => ?_⟩, by omega⟩; by_cases e : j = 6; (subst e; exact ho); exact hop j (by omega)
    ·exact k5_
    ·exact k6_
    ·exact yz_
    ·exact yz_
  ·by_cases ho : x.op = 8
   ·repeat' (first | refine Ctl.h ?_ | ((with_reducible intro hif); first | (focus (cases hif; done)) | ((try simp only [JH] at hif); try (exfalso; omega))) | ((with_reducible first | apply J22 xi_ za_ | apply J23 fol xi_ za_ | apply J24); (·rfl); (· exact k94_); (try kernel_rfl); try exact yk_) | fail)
    apply At.endsPick [0, 1, 2, 3, 5] za_ (fn := Tryz.f157) (rs := [.tmp 2]) Anc.refl hro (lb_ rfl) rfl
    ·exact yi_
    ·exact xf_
    ·rfl
    ·rfl
    ·rfl
    ·exact k84_
    ·rfl
    ·exact yz_
    ·exact zs_
    ·exact fun β => rfl
    ·exact yz_
   ·repeat' (first | refine Ctl.h ?_ | ((with_reducible intro hif); first | (focus (cases hif; done)) | ((try simp only [JH] at hif); try (exfalso; omega))) | ((with_reducible first | apply J22 xi_ za_ | apply J23 fol xi_ za_ | apply J24); (·rfl); (· exact k94_); (try kernel_rfl); try exact yk_) | fail)
    refine At.next 8 ?_ ?_ ?_ rfl ?_ ?_ rfl
    ·refine ⟨⟨by omega, fun j h1 => ?_⟩, by omega⟩; by_cases e : j = 7; (subst e; exact ho); exact hop j (by omega)
    ·exact k5_
    ·exact k6_
    ·exact yz_
    ·exact yz_
  ·by_cases ho : x.op = 9
   ·repeat' (first | refine Ctl.h ?_ | ((with_reducible intro hif); first | (focus (cases hif; done)) | ((try simp only [JH] at hif); try (exfalso; omega))) | ((with_reducible first | apply J22 xi_ za_ | apply J23 fol xi_ za_ | apply J24); (·rfl); (· exact k94_); (try kernel_rfl); try exact yk_) | fail)
    apply At.endsPick [0, 1, 2, 3, 3] za_ (fn := Tryz.f157) (rs := [.tmp 2]) Anc.refl hro (lb_ rfl) rfl
    ·exact yi_
    ·exact xf_
    ·rfl
    ·rfl
    ·rfl
    ·exact k84_
    ·rfl
    ·exact yz_
    ·exact zs_
    ·exact fun β => rfl
    ·exact yz_
   ·repeat' (first | refine Ctl.h ?_ | ((with_reducible intro hif); first | (focus (cases hif; done)) | ((try simp only [JH] at hif); try (exfalso; omega))) | ((with_reducible first | apply J22 xi_ za_ | apply J23 fol xi_ za_ | apply J24); (·rfl); (· exact k94_); (try kernel_rfl); try exact yk_) | fail)
    refine At.next 9 ?_ ?_ ?_ rfl ?_ ?_ rfl
    ·refine ⟨⟨by omega, fun j h1 => ?_⟩, by omega⟩; by_cases e : j = 8; (subst e; exact ho); exact hop j (by omega)
    ·exact k5_
    ·exact k6_
    ·exact yz_
    ·exact yz_
  ·by_cases ho : x.op = 10
   ·repeat' (first | refine Ctl.h ?_ | ((with_reducible intro hif); first | (focus (cases hif; done)) | ((try simp only [JH] at hif); try (exfalso; omega))) | ((with_reducible first | apply J22 xi_ za_ | apply J23 fol xi_ za_ | apply J24); (·rfl); (· exact k94_); (try kernel_rfl); try exact yk_) | fail)
    apply At.endsPick [0, 1, 2, 3, 3] za_ (fn := Tryz.f157) (rs := [.tmp 2]) Anc.refl hro (lb_ rfl) rfl
    ·exact yi_
    ·exact xf_
    ·rfl
    ·rfl
    ·rfl
    ·exact k84_
    ·rfl
    ·exact yz_
    ·exact zs_
    ·exact fun β => rfl
    ·exact yz_
   ·repeat' (first | refine Ctl.h ?_ | ((with_reducible intro hif); first | (focus (cases hif; done)) | ((try simp only [JH] at hif); try (exfalso; omega))) | ((with_reducible first | apply J22 xi_ za_ | apply J23 fol xi_ za_ | apply J24); (·rfl); (· exact k94_); (try kernel_rfl); try exact yk_) | fail)
    refine At.next 10 ?_ ?_ ?_ rfl ?_ ?_ rfl
    ·refine ⟨⟨by omega, fun j h1 => ?_⟩, by omega⟩; by_cases e : j = 9; (subst e; exact ho); exact hop j (by omega)
    ·exact k5_
    ·exact k6_
    ·exact yz_
    ·exact yz_
  ·by_cases ho : x.op = 11
   ·repeat' (first | refine Ctl.h ?_ | ((with_reducible intro hif); first | (focus (cases hif; done)) | ((try simp only [JH] at hif); try (exfalso; omega))) | ((with_reducible first | apply J22 xi_ za_ | apply J23 fol xi_ za_ | apply J24); (·rfl); (· exact k94_); (try kernel_rfl); try exact yk_) | fail)
    apply At.endsPick [0, 1, 2, 3, 3] za_ (fn := Tryz.f157) (rs := [.tmp 2]) Anc.refl hro (lb_ rfl) rfl
    ·exact yi_
    ·exact xf_
    ·rfl
    ·rfl
    ·rfl
    ·exact k84_
    ·rfl
    ·exact yz_
    ·exact zs_
    ·exact fun β => rfl
    ·exact yz_
   ·repeat' (first | refine Ctl.h ?_ | ((with_reducible intro hif); first | (focus (cases hif; done)) | ((try simp only [JH] at hif); try (exfalso; omega))) | ((with_reducible first | apply J22 xi_ za_ | apply J23 fol xi_ za_ | apply J24); (·rfl); (· exact k94_); (try kernel_rfl); try exact yk_) | fail)
    refine At.next 11 ?_ ?_ ?_ rfl ?_ ?_ rfl
    ·refine ⟨⟨by omega, fun j h1 => ?_⟩, by omega⟩; by_cases e : j = 10; (subst e; exact ho); exact hop j (by omega)
    ·exact k5_
    ·exact k6_
    ·exact yz_
    ·exact yz_
  ·have h11 : ∀ j : Nat, j < 11 → x.op ≠ (j : Int) + 1 := hop
   have hw : 32 < x.op := by
    have q0 := h11 0 (by omega)
    have q1 := h11 1 (by omega)
    have q2 := h11 2 (by omega)
    have q3 := h11 3 (by omega)
    have q4 := h11 4 (by omega)
    have q5 := h11 5 (by omega)
    have q6 := h11 6 (by omega)
    have q7 := h11 7 (by omega)
    have q8 := h11 8 (by omega)
    have q9 := h11 9 (by omega)
    have q10 := h11 10 (by omega)
    omega
   repeat' (first | refine Ctl.h ?_ | ((with_reducible intro hif); first | (focus (cases hif; done)) | ((try simp only [JH] at hif); try (exfalso; omega))) | ((with_reducible first | apply J22 xi_ za_ | apply J23 fol xi_ za_ | apply J24); (·rfl); (· exact k93_); (try kernel_rfl); try exact yk_) | fail)
   apply At.endsPick [0, 1, 2, 3, 3] za_ (fn := Tryz.f157) (rs := [.tmp 2]) Anc.refl hro (lb_ rfl) rfl
   ·exact yi_
   ·exact xf_
   ·rfl
   ·rfl
   ·rfl
   ·exact k84_
   ·rfl
   ·exact yz_
   ·exact zs_
   ·exact fun β => rfl
   ·exact yz_
 ·cases hF
end Go.Proofs.YtjliakjbdcplcaaGreat.Vm
end
section
namespace Go.Proofs.YtjliakjbdcplcaaGreat.Vm
open Go.RowKit
def Bun1 (ρ : Nat → Nat) (c : HB) : HB → Prop
 | .own t u ex => Less c (.own t (u.ren ρ) ex)
 | .raw _ => False
 | b => Fit ρ b c
def BunL (ρ : Nat → Nat) (h : HM) : List HB → List Nat → Prop
 | [], _ => True
 | b :: L, n => match n with
  | j :: n => Bun1 ρ (h j) b ∧ BunL ρ h L n
  | [] => False
theorem bunL_get {ρ : Nat → Nat} {h : HM} : ∀ {L : List HB} {l : List Nat}, BunL ρ h L l → ∀ i, i < L.length → Bun1 ρ (h (l.getD i 0)) (hp L i)
 | [], l, _, i, hi => by simp at hi
 | b :: L, [], hf, _, _ => by exact hf.elim
 | b :: L, j :: l, hf, 0, _ => hf.1
 | b :: L, j :: l, hf, i + 1, hi => by
  have := bunL_get hf.2 i (by simpa using hi)
  unfold hp at this ⊢
  simpa using this
theorem fitL_of {ρ : Nat → Nat} {h : HM} : ∀ {L : List HB} {l : List Nat}, l.length = L.length → (∀ i, i < L.length → Fit ρ (hp L i) (h (l.getD i 0))) → FitL ρ h L l
 | [], l, _, _ => trivial
 | b :: L, [], hl, _ => by simp at hl
 | b :: L, j :: l, hl, hf => by
  refine ⟨?_, fitL_of (by simpa using hl) fun i hi => ?_⟩
  ·have := hf 0 (by simp)
   rwa [hp_zero] at this
  ·have := hf (i + 1) (by simpa using hi)
   rw [hp_cons] at this
   simpa using this
def yr_ : List Nat → Bool
 | [] => true
 | j :: l => !memN j l && yr_ l
theorem nodupN_spec : ∀ {l : List Nat}, yr_ l = true → ∀ i j, i < j → j < l.length → l.getD i 0 ≠ l.getD j 0
 | [], _, i, j, _, hj => by simp at hj
 | k :: l, h, i, j, hij, hj => by
  simp only [yr_, Bool.and_eq_true, Bool.not_eq_true'] at h
  obtain ⟨j, rfl⟩ : ∃ j', j = j' + 1 := ⟨j - 1, by omega⟩
  rw [List.getD_cons_succ]
  have hj' : j < l.length := by simpa using hj
  cases i with
  | zero =>
   rw [List.getD_cons_zero]
   intro e
   have : k ∈ l := by
    rw [e, List.getD_eq_getElem?_getD, List.getElem?_eq_getElem hj']
    exact List.getElem_mem hj'
   rw [memN_iff.2 this] at h
   cases h.1
  | succ i =>
   rw [List.getD_cons_succ]
   exact nodupN_spec h.2 i j (by omega) hj'
theorem nodupN_ne {l : List Nat} (h : yr_ l = true) {i j : Nat} (hi : i < l.length) (hj : j < l.length) (hne : i ≠ j) : l.getD i 0 ≠ l.getD j 0 := by
 rcases Nat.lt_or_gt_of_ne hne with h' | h'
 ·exact nodupN_spec h i j h' hj
 ·exact (nodupN_spec h j i h' hi).symm
theorem less_is_born {b c : HB} (h : Less b c) (hc : c.born = true) : b.born = true := by
 cases h with
 | same => exact hc
 | dead => cases hc
 | gone h => exact h
 | arr => rfl
 | loose => rfl
 | val => rfl
theorem bun1_born {ρ : Nat → Nat} {c b : HB} (h : Bun1 ρ c b) : c.born = true := by
 cases b with
 | own t u ex => exact less_is_born h rfl
 | ro u => exact Fit.born (ρ := ρ) (b := .ro u) h
 | gone => exact Fit.born (ρ := ρ) (b := .gone) h
 | raw o => exact h.elim
 | dead => exact Fit.born (ρ := ρ) (b := .dead) h
theorem bun_ok {f : FuncId} {args0 args : List SV} {L0 L1 : List HB} {v val : SV} {w0 w : World} {M : Nat → Prop} {β : Env} {h h' : HM} {m : Nat} {wr : List (Nat × HB)} (l : List Nat) (H : zo_ Tryz.prog f args0 L0 v L1) (R : Rep w0 M β h' w)
  (hlen : l.length = L0.length) (hpos : 0 < L0.length) (h00 : l.getD 0 0 = 0) (hz : hp L0 0 = .gone) (hnd : yr_ l = true) (hB : BunL (xo_ l m) h' L0 l)
  (hm : ∀ i, m ≤ i → h i = .dead) (hwr : ∀ p ∈ newB (xo_ l m) m (L1.drop L0.length), h' p.1 = h p.1) (hle : L0.length ≤ L1.length) (hno : noRo2 L0 L1 = true)
  (hst0 : y8_ (hp L0) L0) (hsta : zd_ (hp L0) args0) (hst1 : y8_ (hp (mrgL L0 L1)) (mrgL L0 L1)) (hv : Stable (hp (mrgL L0 L1)) v)
  (hargs : renL (xo_ l m) args0 = args) (hval : v.ren (xo_ l m) = val) (hw : oldB (xo_ l m) L0 L1 l ++ newB (xo_ l m) m (L1.drop L0.length) = wr) :
  Calls Tryz.prog f (denL β args).toArray w fun e w' => ∃ β', (∀ i, (h' i).born = true → β i = β' i) ∧ Rep w0 M β' (wrs h' wr) w' ∧ Stable (wrs h' wr) val ∧ e = .returned (val.den β') := by
 have hne : ∀ i j, i < L0.length → j < L0.length → i ≠ j → l.getD i 0 ≠ l.getD j 0 := fun i j hi hj hn => nodupN_ne hnd (by omega) (by omega) hn
 have hbun := bunL_get hB
 obtain ⟨H1, hH1⟩ : ∃ H1, H1 = wrs h' (oldB (xo_ l m) L0 L0 l) := ⟨_, rfl⟩
 have him : ∀ i, i < L0.length → (hp L0 i).mine = true → H1 (l.getD i 0) = (hp L0 i).ren (xo_ l m) := fun i hi hmi => by
  rw [hH1]
  exact wrs_oldB (Nat.le_refl _) hlen (fun a b hab hb _ _ => hne a b (by omega) hb (by omega)) i hi hmi
 have hneq : ∀ j, (∀ i, i < L0.length → (hp L0 i).mine = true → l.getD i 0 ≠ j) → H1 j = h' j := fun j hj => by
  rw [hH1]; exact wrs_oldB_ne hj
 have hrl : ∀ i, i < L0.length → xo_ l m i = l.getD i 0 := fun i hi => if_pos (by omega)
 have less1 : ∀ i, Less (h' i) (H1 i) := fun j => by
  by_cases hc : ∃ i, i < L0.length ∧ (hp L0 i).mine = true ∧ l.getD i 0 = j
  ·obtain ⟨i, hi, hmi, rfl⟩ := hc
   rw [him i hi hmi]
   have := hbun i hi
   cases hh : hp L0 i <;> rw [hh] at hmi this <;> first | (cases hmi; done) | exact this.elim | exact this
  ·rw [hneq j fun i hi hmi e => hc ⟨i, hi, hmi, e⟩]; exact .same _
 have born1 : ∀ i, (h' i).born = true → (H1 i).born = true := fun j hj => by
  by_cases hc : ∃ i, i < L0.length ∧ (hp L0 i).mine = true ∧ l.getD i 0 = j
  ·obtain ⟨i, hi, hmi, rfl⟩ := hc
   rw [him i hi hmi]
   cases hh : hp L0 i <;> rw [hh] at hmi <;> first | (cases hmi; done) | rfl
  ·rw [hneq j fun i hi hmi e => hc ⟨i, hi, hmi, e⟩]; exact hj
 have bornL : ∀ i, (hp L0 i).born = true → (H1 (xo_ l m i)).born = true := fun i hi => by
  have hlt : i < L0.length := by
   rcases Nat.lt_or_ge i L0.length with h' | h'
   ·exact h'
   ·rw [y4_ h'] at hi; cases hi
  rw [hrl i hlt]
  exact born1 _ (bun1_born (hbun i hlt))
 have H0 : H1 0 = .gone := by
  rw [hneq 0 fun i hi hmi e => ?_]
  ·exact R.nil0
  ·have : i = 0 := by
    by_cases hi0 : i = 0
    ·exact hi0
    ·exact absurd (e.trans h00.symm) (hne i 0 hi hpos hi0)
   subst this
   rw [hz] at hmi; cases hmi
 have R1 : Rep w0 M β H1 w := R.less less1 H0 fun j => by
  by_cases hc : ∃ i, i < L0.length ∧ (hp L0 i).mine = true ∧ l.getD i 0 = j
  ·obtain ⟨i, hi, hmi, rfl⟩ := hc
   rw [him i hi hmi]
   have hs := xq_ hst0 i
   have hb := hbun i hi
   cases hh : hp L0 i <;> rw [hh] at hmi hs hb <;> first | (cases hmi; done) | exact Stable.ren bornL hs | exact hb.elim
  ·rw [hneq j fun i hi hmi e => hc ⟨i, hi, hmi, e⟩]
   exact HB.stable_more (R.st j) born1
 have hfit : FitL (xo_ l m) H1 L0 l := fitL_of hlen fun i hi => by
  cases hh : hp L0 i with
  | own t u ex =>
   rw [him i hi (by rw [hh]; rfl), hh]
   exact .own
  | raw o => exact (by have hb := hbun i hi; rw [hh] at hb; exact hb.elim)
  | _ =>
   have hb := hbun i hi
   rw [hneq (l.getD i 0) fun k hk hmk e => by
    by_cases hki : k = i
    ·subst hki; rw [hh] at hmk; cases hmk
    ·exact hne k i hk hi hki e]
   rw [hh] at hb
   exact hb
 have hnew : ∀ p ∈ newB (xo_ l m) m (L1.drop L0.length), H1 p.1 = h p.1 := fun p hp => by
  have hge : m ≤ p.1 := by
   have : ∀ (L : List HB) (k : Nat), m ≤ k → p ∈ newB (xo_ l m) k L → m ≤ p.1 := by
    intro L
    induction L with
    | nil => intro k hk hp; cases hp
    | cons b L ih =>
     intro k hk hp
     cases hp with
     | head => exact hk
     | tail _ hp => exact ih (k + 1) (by omega) hp
   exact this _ m (Nat.le_refl _) hp
  rw [hneq p.1 fun i hi hmi e => ?_]
  ·exact hwr p hp
  ·have hb := bun1_born (hbun i hi)
   rw [e, hwr p hp, hm _ hge] at hb
   cases hb
 have C := callRW (h := h) (m := m) l H R1 hlen hpos h00 hz hfit (fun i j hi hj hn _ _ => hne i j hi hj hn) hm hnew hle hno hst0 hsta hst1 hv
 rw [hargs, hval, hw] at C
 have hww : wrs H1 wr = wrs h' wr := by
  rw [← hw, wrs_app, wrs_app]
  congr 1
  funext j
  by_cases hc : ∃ i, i < L0.length ∧ (hp L0 i).mine = true ∧ l.getD i 0 = j
  ·obtain ⟨i, hi, hmi, rfl⟩ := hc
   rw [wrs_oldB hle hlen (fun a b hab hb _ _ => hne a b (by omega) hb (by omega)) i hi hmi, wrs_oldB hle hlen (fun a b hab hb _ _ => hne a b (by omega) hb (by omega)) i hi hmi]
  ·rw [wrs_oldB_ne fun i hi hmi e => hc ⟨i, hi, hmi, e⟩, wrs_oldB_ne fun i hi hmi e => hc ⟨i, hi, hmi, e⟩]
   exact hneq j fun i hi hmi e => hc ⟨i, hi, hmi, e⟩
 rw [hww] at C
 exact C.mono fun e w' ⟨β', g1, g2, g3, g4⟩ => ⟨β', fun i hi => g1 i (born1 i hi), g2, g3, g4⟩
end Go.Proofs.YtjliakjbdcplcaaGreat.Vm
end
section
namespace Go.Proofs.YtjliakjbdcplcaaGreat.Vm
open Go.RowKit
attribute [local push_cast] prS zn_ i64S nav_ins xz_ xy_ xx_ xw_ xv_ nav_snd xu_ xt_ xs_ z4_ yh_ yn_ yg_ zw_ zy_ iOf
section
variable {ρ : Nat → Nat} {h h' : HM} {g c k a b : Nat} {s : Sta} {v : Evi} {x : Ins} {ok : Prop}
theorem bun_mac (hp : macP h g = some (s, v, x, c, k, ok)) (hok : ok) (eg : h' g = h g) (ha : ρ a = c) (hb : ρ b = k) : Bun1 ρ (h' g) (mB s v x a b) := by
 obtain ⟨l, cf, sf, hg, hgl, _⟩ := mac_val hp hok
 show Less (h' g) (.own 186 ((macS s v x a b).ren ρ) true)
 rw [eg, hg, macS_ren, ha, hb]
 exact .val hgl (fun n k f e => by cases e) (fun n k f e => by cases e)
theorem bun_macR (hp : macP h g = some (s, v, x, c, k, ok)) (hok : ok) (eg : h' g = h g) (ha : ρ a = c) (hb : ρ b = k) : Bun1 ρ (h' g) (.ro (macS s v x a b)) := by
 obtain ⟨l, cf, sf, hg, hgl, _⟩ := mac_val hp hok
 show Fit ρ _ _
 exact .ro (u := .agg l) (by rw [eg, hg]; rfl) (fun β => by rw [macS_ren, ha, hb]; exact hgl β) (fun n k f e => by rw [macS_ren] at e; cases e)
theorem bun_cel (hp : macP h g = some (s, v, x, c, k, ok)) (hok : ok) (ec : h' c = h c) : Bun1 ρ (h' c) (cB s) := by
 obtain ⟨l, cf, sf, hg, hgl, hc, hcl, _⟩ := mac_val hp hok
 show Less (h' c) (.own 2 (.arr s.cells.length 1 (i64S s.cells)) false)
 rw [ec, hc]
 exact .val (fun β => arrCl (hcl β)) (fun n k f e => by injection e with e1 e2 e3; subst e1 e2; exact ⟨_, rfl⟩) (fun n k f e => by injection e with e1 e2 e3; subst e1 e2; exact ⟨_, rfl⟩)
theorem sndsS_ren (ρ : Nat → Nat) (l : List Snd) : (fun q => (zn_ l q).ren ρ) = zn_ l := by
 funext q; unfold zn_; simp only [sndS, SV.ren, renL]
theorem bun_snd (hp : macP h g = some (s, v, x, c, k, ok)) (hok : ok) (ek : h' k = h k) : Bun1 ρ (h' k) (sB s) := by
 obtain ⟨l, cf, sf, hg, hgl, hc, hcl, hk, hkl, _⟩ := mac_val hp hok
 show Less (h' k) (.own 125 (.arr s.sends.length 3 fun q => (zn_ s.sends q).ren ρ) false)
 rw [ek, hk, sndsS_ren]
 exact .val (fun β => arrCl (hkl β)) (fun n k f e => by injection e with e1 e2 e3; subst e1 e2; exact ⟨_, rfl⟩) (fun n k f e => by injection e with e1 e2 e3; subst e1 e2; exact ⟨_, rfl⟩)
theorem bun_cel0 (hp : macP h g = some (s, v, x, c, k, ok)) (hok : ok) (ec : h' c = h c) : Bun1 ρ (h' c) .gone := by
 obtain ⟨l, cf, sf, hg, hgl, hc, _⟩ := mac_val hp hok
 exact Fit.gone (by rw [ec, hc]; rfl)
theorem bun_snd0 (hp : macP h g = some (s, v, x, c, k, ok)) (hok : ok) (ek : h' k = h k) : Bun1 ρ (h' k) .gone := by
 obtain ⟨l, cf, sf, hg, hgl, hc, _, hk, _⟩ := mac_val hp hok
 exact Fit.gone (by rw [ek, hk]; rfl)
def prP (h : HM) (i : Nat) : Option (Nat × List Ins × Prop) := match h i with
 | .own t (.arr n 5 f) false => bif Nat.beq t 38 then some (n, ls zl_ n f, ∀ q, q < n → isIns (f q) = true) else none
 | _ => none
def prR (P : List Ins) : HB := .ro (.arr P.length 5 (prS P))
def prO (P : List Ins) : HB := .own 38 (.arr P.length 5 (prS P)) false
theorem prS_ren (ρ : Nat → Nat) (l : List Ins) : (fun q => (prS l q).ren ρ) = prS l := by
 funext q; unfold prS; simp only [yo_, SV.ren, renL]
variable {i n : Nat} {P : List Ins}
theorem prP_len (hp : prP h i = some (n, P, ok)) : n = P.length := by
 unfold prP at hp
 split at hp
 ·obtain ⟨hb, hs⟩ := zk_ hp
  simp only [Option.some.injEq, Prod.mk.injEq] at hs
  obtain ⟨rfl, rfl, rfl⟩ := hs
  rw [zb_]
 ·cases hp
theorem bun_pr (hp : prP h i = some (n, P, ok)) (hok : ok) (ei : h' i = h i) : Bun1 ρ (h' i) (prR P) := by
 unfold prP at hp
 split at hp
 ·rename_i t n f hi
  obtain ⟨hb, hs⟩ := zk_ hp
  simp only [Option.some.injEq, Prod.mk.injEq] at hs
  obtain ⟨rfl, rfl, rfl⟩ := hs
  refine Fit.ro (u := .arr n 5 f) (by rw [ei, hi]; rfl) (fun β => ?_) (fun n1 k1 f1 e => by
   simp only [SV.ren] at e
   injection e with e1 e2 e3
   rw [zb_] at e1
   subst e1 e2
   exact ⟨_, rfl⟩)
  simp only [SV.ren, prS_ren, zb_]
  refine arrCl fun q hq => ?_
  unfold prS
  rw [isIns_cl (hok q hq), ls_getD hq, isIns_cl (z4_ _), yh_]
 ·cases hp
theorem bun_pr0 (hp : prP h i = some (n, P, ok)) (ei : h' i = h i) : Bun1 ρ (h' i) .gone := by
 unfold prP at hp
 split at hp
 ·rename_i t n f hi
  exact Fit.gone (by rw [ei, hi]; rfl)
 ·cases hp
end
def pS : yq_ := fun args h m => match args with
 | [.ptr g [], .sl z i [] 5 0 n none] => match macP h g, prP h i with
  | some (s, v, x, c, k, ok), some (n', P, ok2) => bif Nat.beq z i && Nat.beq n n' && yr_ [0, g, c, k, i] then
    some ((ok ∧ ok2) ∧ PG P ∧ VOk v ∧ SG P s, .int .i64 (xg_ P v s), [g, c, k, i], [(g, mB (xp_ P v s) v (stepX P s x) c m), (c, cB (xp_ P v s)), (k, .gone), (m, sB (xp_ P v s))]) else none
  | _, _ => none
 | _ => none
def cSt : FuncId → Option yq_ := y3_ [(157, mS doF)]
theorem cSt_ok : ∀ f S, cSt f = some S → zj_ Tryz.prog f S := zp_ ⟨m_do, trivial⟩
theorem step_lit (P : List Ins) (s : Sta) (v : Evi) (x : Ins) (hP : PG P) (V : VOk v) (hS : SG P s) : zo_ Tryz.prog 122 [.ptr 1 [], .sl 4 4 [] 5 0 P.length none] [.gone, mB s v x 2 3, cB s, sB s, prR P] (.int .i64 (xg_ P v s))
  [.gone, mB (xp_ P v s) v (stepX P s x) 2 5, cB (xp_ P v s), .gone, .gone, sB (xp_ P v s)] := by
 have R := hS.ri hP
 have S := hS.sok hP
 have a0 := hS.a0
 have a1 := hS.a1
 have hlt : s.at_.toNat < P.length := by omega
 have hl := hP.len
 unfold insAt at R
 obtain ⟨at0, en, rg, ce, dr, se⟩ := s
 dsimp only at a0 a1 hlt R
 cases en
 ·have e1 : xg_ P v ⟨at0, false, rg, ce, dr, se⟩ = doE ⟨at0, false, rg, ce, dr, se⟩ v (P.getD at0.toNat ⟨0, 0, 0, 0, 0⟩) := rfl
  have e2 : xp_ P v ⟨at0, false, rg, ce, dr, se⟩ = doS ⟨at0, false, rg, ce, dr, se⟩ v (P.getD at0.toNat ⟨0, 0, 0, 0, 0⟩) := rfl
  have e3 : stepX P ⟨at0, false, rg, ce, dr, se⟩ x = P.getD at0.toNat ⟨0, 0, 0, 0, 0⟩ := rfl
  rw [e1, e2, e3]
  refine ze_ (fn := Tryz.f122) 5 23 0 rfl rfl rfl rfl rfl (by simp only [zd_, Stable, hp, i64S, prS, yo_, zn_, sndS, stS, evS, macS]; simp [HB.born, mB, cB, sB, prR]) rfl fun w0 M E hro => ?_
  repeat' (first | refine Ctl.h ?_ | ((with_reducible intro hif); first | (focus (cases hif; done)) | ((try simp only [JH] at hif); try (exfalso; omega))) | ((with_reducible first | apply J22 cSt_ok za_ | apply J23 fol cSt_ok za_ | apply J24); (·rfl); (· exact k95_); (try kernel_rfl); try exact k25_) | fail)
  apply At.endsPick [0, 1, 2, 3, 4, 5] za_ (fn := Tryz.f122) (rs := [.tmp 4]) Anc.refl hro (lb_ rfl) rfl
  ·exact yi_
  ·exact xf_
  ·rfl
  ·rfl
  ·rfl
  ·exact k29_
  ·rfl
  ·exact yz_
  ·exact zs_
  ·exact fun β => rfl
  ·exact yz_
 ·have e1 : xg_ P v ⟨at0, true, rg, ce, dr, se⟩ = 183 := rfl
  have e2 : xp_ P v ⟨at0, true, rg, ce, dr, se⟩ = ⟨at0, true, rg, ce, dr, se⟩ := rfl
  have e3 : stepX P ⟨at0, true, rg, ce, dr, se⟩ x = x := rfl
  rw [e1, e2, e3]
  refine ze_ (fn := Tryz.f122) 5 23 0 rfl rfl rfl rfl rfl (by simp only [zd_, Stable, hp, i64S, prS, yo_, zn_, sndS, stS, evS, macS]; simp [HB.born, mB, cB, sB, prR]) rfl fun w0 M E hro => ?_
  repeat' (first | refine Ctl.h ?_ | ((with_reducible intro hif); first | (focus (cases hif; done)) | ((try simp only [JH] at hif); try (exfalso; omega))) | ((with_reducible first | apply J22 cSt_ok za_ | apply J23 fol cSt_ok za_ | apply J24); (·rfl); (· exact k95_); (try kernel_rfl); try exact k25_) | fail)
  apply At.endsPick [0, 1, 2, 3, 4, 3] za_ (fn := Tryz.f122) (rs := [.tmp 4]) Anc.refl hro (lb_ rfl) rfl
  ·exact yi_
  ·exact xf_
  ·rfl
  ·rfl
  ·rfl
  ·exact k29_
  ·rfl
  ·exact yz_
  ·exact zs_
  ·exact fun β => rfl
  ·exact yz_
end Go.Proofs.YtjliakjbdcplcaaGreat.Vm
end

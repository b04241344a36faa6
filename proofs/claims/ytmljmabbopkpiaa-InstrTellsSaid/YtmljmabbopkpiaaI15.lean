import Derived.Test.YtmljmabbopkpiaaI6
import Derived.Test.YtmljmabbopkpiaaI7
import Derived.Test.YtmljmabbopkpiaaI10
import Derived.Test.YtmljmabbopkpiaaI12
import Derived.Test.YtmljmabbopkpiaaI13
import Derived.Test.YtmljmabbopkpiaaI14
set_option linter.unusedSimpArgs false
set_option linter.unusedVariables false
set_option maxRecDepth 100000
set_option maxHeartbeats 4000000
section
namespace Go.Proofs.Ytmljmabbopkpiaa.Vm
theorem u8_ {P : Prop} (h : P := by simp only [ze_, zc_, hp, i64S, prS, yl_, sndsS, sndS, stS, evS, macS]; simp [HB.born]) : P := h
theorem k80_ {P : Prop} (h : P := by (repeat' (first | exact trivial | exact .inl rfl | exact .inr (.same _) | exact .inr .loose | exact .inr (.arr (by assumption)) | apply And.intro | (exact .inr (.same _)) | (refine .inr (less_mac _ _ _ ?_ ?_ ?_ ?_ ?_ ?_ ?_ ?_) <;> first | rfl | (intro q _ β; rfl) | omega | simp) | (refine .inr (less_set _ _ _ ?_ ?_) <;> first | rfl | (intro q _ β; rfl) | omega | simp) | (exact .inr (hY _))))) : P := h
theorem k81_ {P : Prop} (h : P := by (repeat' (first | exact trivial | exact .inl rfl | exact .inr (.same _) | exact .inr .loose | exact .inr (.arr (by assumption)) | apply And.intro | (exact .inr (.same _)) | (refine .inr (less_mac _ _ _ ?_ ?_ ?_ ?_ ?_ ?_ ?_ ?_) <;> first | rfl | (intro q _ β; rfl) | omega | simp)))) : P := h
theorem k82_ {P : Prop} (h : P := by (simp only [push_cast, ↓JP, Nat.reduceAdd, Nat.reduceEqDiff, Nat.reduceLT, Nat.reduceMul, Nat.reduceLeDiff, reduceCtorEq, reduceIte, ↓JK, JM, JE, inR, inN]; rfl)) : P := h
theorem k83_ {P : Prop} (h : P := by (simp only [push_cast, ↓JP, Nat.reduceAdd, Nat.reduceEqDiff, Nat.reduceLT, Nat.reduceMul, Nat.reduceLeDiff, reduceCtorEq, reduceIte, ↓JK, Bool.cond_decide, q0, q1, q2, q3]; rfl)) : P := h
theorem k84_ {P : Prop} (h : P := by (simp only [push_cast, ↓JP, Nat.reduceAdd, Nat.reduceEqDiff, Nat.reduceLT, Nat.reduceMul, Nat.reduceLeDiff, reduceCtorEq, reduceIte, ↓JK, cD, Bool.cond_decide, kindF_0, kindF_1, kindF_2, kindF_3, kindF_4, kindF_5, kindF_6, kindF_7, kindF_8, kindF_9, kindF_10]; rfl)) : P := h
theorem k85_ {P : Prop} (h : P := by (simp only [push_cast, ↓JP, Nat.reduceAdd, Nat.reduceEqDiff, Nat.reduceLT, Nat.reduceMul, Nat.reduceLeDiff, reduceCtorEq, reduceIte, ↓JK, cD, Bool.cond_decide, kindF_0, kindF_1, kindF_2, kindF_3, kindF_4, kindF_5, kindF_6, kindF_7, kindF_8, kindF_9, kindF_10, ho]; rfl)) : P := h
end Go.Proofs.Ytmljmabbopkpiaa.Vm
end
section
namespace Go.Proofs.Ytmljmabbopkpiaa.Vm
open Go.RowKit
attribute [local push_cast] prS sndsS i64S nav_ins nav_ins0 nav_ins1 nav_ins2 nav_ins3 nav_ins4 nav_snd nav_snd0 nav_snd1 nav_snd2 zy_ yi_ ym_ yh_ yd_ yc_ iOf
def sCl64 : yq_ := fun args h m => match args with
 | [v] => match y2_ h 1 (.tup []) v with
  | some (c, n, f, rd) => some (c ∧ (∀ q, q < n → isI .i64 (f q) = true) ∧ n ≤ 1000000, .sl m m [] 1 0 n none, rd, [(m, .own 2 (.arr n 1 (i64S (ls iOf n f))) false)])
  | _ => none
 | _ => none
theorem sCl64_ok : zj_ Try.prog 62 sCl64 := by
 refine ⟨zi_ (by kernel_rfl), fun args h m c v rd wr hs hm hc w0 M β h' w R hrd hwr hst => ?_⟩
 unfold sCl64 at hs
 split at hs
 ·rename_i v0
  split at hs
  ·rename_i c' n f rd' ha
   simp only [Option.some.injEq, Prod.mk.injEq] at hs
   obtain ⟨rfl, rfl, rfl, rfl⟩ := hs
   obtain ⟨hc1, hi, hn⟩ := hc
   obtain ⟨A, cap, hden, hnc, hr⟩ := zg_ R ha hc1 hrd (by omega)
   simp only [denL, hden]
   refine (clone64_c A n cap _ w hr (fun u hu => elems_sane u hu) (by omega)).mono fun e w' he => ?_
   obtain ⟨p, rfl, ho, hb⟩ := he
   have hmd : h' m = .dead := (hwr _ (.head _)).trans (hm m (Nat.le_refl _))
   obtain ⟨e', R', hv⟩ := (R.below hb).made (f := i64S (ls iOf n f)) hmd ho R.size (by
     rw [elems_i64 hi]
     have := elems_i64S (β := β) (ls iOf n f)
     rwa [zb_] at this) i64S_stable (fun g i a' hg hmi hai e => by
    have := R.lt i a' hmi hai
    obtain ⟨_, ⟨rfl, _⟩ | ⟨g', cap', cur, rfl, hg', _⟩⟩ := ho
    ·cases hg
    ·simp [Value.ownBlock] at hg
     omega)
   exact ⟨_, z9_ hmd, R', stable_new, by rw [hv]⟩
  ·cases hs
 ·cases hs
def sClSn : yq_ := fun args h m => match args with
 | [v] => match y2_ h 3 (.tup []) v with
  | some (c, n, f, rd) => some (c ∧ (∀ q, q < n → isSnd (f q) = true) ∧ n ≤ 1000000, .sl m m [] 3 0 n none, rd, [(m, .own 64 (.arr n 3 (sndsS (ls zm_ n f))) false)])
  | _ => none
 | _ => none
theorem sClSn_ok : zj_ Try.prog 88 sClSn := by
 refine ⟨zi_ (by kernel_rfl), fun args h m c v rd wr hs hm hc w0 M β h' w R hrd hwr hst => ?_⟩
 unfold sClSn at hs
 split at hs
 ·rename_i v0
  split at hs
  ·rename_i c' n f rd' ha
   simp only [Option.some.injEq, Prod.mk.injEq] at hs
   obtain ⟨rfl, rfl, rfl, rfl⟩ := hs
   obtain ⟨hc1, hi, hn⟩ := hc
   obtain ⟨A, cap, hden, hnc, hr⟩ := zg_ R ha hc1 hrd (by omega)
   simp only [denL, hden]
   refine (cloneSend_c A n cap _ w hr (fun u hu => elems_sane u hu) (by omega)).mono fun e w' he => ?_
   obtain ⟨p, rfl, ho, hb⟩ := he
   have hmd : h' m = .dead := (hwr _ (.head _)).trans (hm m (Nat.le_refl _))
   obtain ⟨e', R', hv⟩ := (R.below hb).made (f := sndsS (ls zm_ n f)) hmd ho R.size (by
     rw [elems_snd hi]
     have := elems_sndsS (β := β) (ls zm_ n f)
     rwa [zb_] at this) sndsS_stable (fun g i a' hg hmi hai e => by
    have := R.lt i a' hmi hai
    obtain ⟨_, ⟨rfl, _⟩ | ⟨g', cap', cur, rfl, hg', _⟩⟩ := ho
    ·cases hg
    ·simp [Value.ownBlock] at hg
     omega)
   exact ⟨_, z9_ hmd, R', stable_new, by rw [hv]⟩
  ·cases hs
 ·cases hs
def cCp : FuncId → Option yq_ := yz_ [(62, sCl64), (88, sClSn)]
theorem cCp_ok : ∀ f S, cCp f = some S → zj_ Try.prog f S := zp_ ⟨sCl64_ok, sClSn_ok, trivial⟩
theorem copied_lit (s : Sta) (p1 p2 : Nat) (hc : s.cells.length ≤ 1000000) (hs : s.sends.length ≤ 1000000) : zo_ Try.prog 86 [.agg [.int .i64 s.at_, .bool s.ended, .arr 8 1 (fun q => .int .i64 (s.regs q)), .sl 1 2 [] 1 0 s.cells.length (some p1), .int .i64 s.draws, .sl 3 4 [] 3 0 s.sends.length (some p2)]] [.gone, .gone, .ro (.arr s.cells.length 1 (i64S s.cells)), .gone, .ro (.arr s.sends.length 3 (sndsS s.sends))] (stS s 5 6) [.gone, .gone, .gone, .gone, .gone, cB s, sB s] := by
 refine zf_ (fn := Try.f86) 5 12 0 rfl rfl rfl rfl rfl u8_ rfl fun w0 M E hro => ?_
 repeat' (first | refine Ctl.h ?_ | ((with_reducible intro hif); first | (focus (cases hif; done)) | ((try simp only [JH] at hif); try (exfalso; omega))) | ((with_reducible first | apply J22 cCp_ok za_ | apply J23 fol cCp_ok za_ | apply J24); (·rfl); (· (simp only [push_cast, ↓JP, Nat.reduceAdd, Nat.reduceEqDiff, Nat.reduceLT, Nat.reduceMul, Nat.reduceLeDiff, reduceCtorEq, reduceIte, ↓JK, JM, cCp, sCl64, sClSn, JE, inR, inN]; rfl)); (try kernel_rfl); try exact k26_) | fail)
 apply At.endsPick [0, 1, 2, 3, 4, 7, 8] za_ (fn := Try.f86) (rs := [.cell 2 53]) Anc.refl hro (lb_ rfl) rfl
 ·exact yo_
 ·exact k14_
 ·rfl
 ·rfl
 ·rfl
 ·exact k30_
 ·rfl
 ·exact yt_
 ·exact k7_
 ·exact fun β => rfl
 ·exact yt_
theorem vright_lit (v : Evi) : zo_ Try.prog 109 [.agg [.int .u64 v.seed, .int .i64 v.process, .int .i64 v.ports, .int .i64 v.look, .int .i64 v.now]] [.gone] (.bool v.rightB) [.gone] := by
 refine zf_ (fn := Try.f109) 1 31 0 rfl rfl rfl rfl rfl u8_ rfl fun w0 M E hro => ?_
 repeat' (first | refine Ctl.h ?_ | ((with_reducible intro hif); first | (focus (cases hif; done)) | ((try simp only [JH] at hif); try (exfalso; omega))) | ((with_reducible first | apply J22 cCp_ok za_ | apply J23 fol cCp_ok za_ | apply J24); (·rfl); (· exact k82_); (try kernel_rfl); try exact k26_) | fail)
 apply At.endsRet za_ (fn := Try.f109) (rs := [.tmp 2]) Anc.refl hro (lb_ rfl) rfl
 ·exact yo_
 ·exact k4_
 ·exact k5_
 ·rfl
 ·exact yt_
 ·exact k7_
 ·intro β; simp [resS, SV.den, Evi.rightB, Bool.and_assoc]
 ·exact yt_
theorem sright_lit (s : Sta) (n : Int) (p1 p2 : Nat) (hc : s.cells.length ≤ 1000000) : zo_ Try.prog 110 [.agg [.int .i64 s.at_, .bool s.ended, .arr 8 1 (fun q => .int .i64 (s.regs q)), .sl 1 2 [] 1 0 s.cells.length (some p1), .int .i64 s.draws, .sl 3 4 [] 3 0 s.sends.length (some p2)], .int .i64 n] [.gone, .gone, .ro (.arr s.cells.length 1 (i64S s.cells)), .gone, .ro (.arr s.sends.length 3 (sndsS s.sends))] (.bool (s.rightB n)) [.gone] := by
 refine zf_ (fn := Try.f110) 5 30 0 rfl rfl rfl rfl rfl u8_ rfl fun w0 M E hro => ?_
 repeat' (first | refine Ctl.h ?_ | ((with_reducible intro hif); first | (focus (cases hif; done)) | ((try simp only [JH] at hif); try (exfalso; omega))) | ((with_reducible first | apply J22 cCp_ok za_ | apply J23 fol cCp_ok za_ | apply J24); (·rfl); (· exact k82_); (try kernel_rfl); try exact k26_) | fail)
 have e1 : ((s.cells.length : Int) ≤ 1024) ↔ s.cells.length ≤ 1024 := by omega
 apply At.endsRet za_ (fn := Try.f110) (rs := [.tmp 4]) Anc.refl hro (lb_ rfl) rfl
 ·exact yo_
 ·exact k4_
 ·exact k5_
 ·rfl
 ·exact yt_
 ·exact k7_
 ·intro β; simp [resS, SV.den, Sta.rightB, Bool.and_assoc, e1]
 ·exact yt_
def sCopied : yq_ := fun args h m => match args with
 | [.agg [v1, .bool v2, .arr 8 1 v3, v4, v5, v6]] => match y2_ h 1 (.tup []) v4, y2_ h 3 (.tup []) v6 with
  | some (c4, n4, f4, r4), some (c6, n6, f6, r6) => bif isI .i64 v1 && isI .i64 v5 then some (c4 ∧ c6 ∧ (∀ q, q < n4 → isI .i64 (f4 q) = true) ∧ (∀ q, q < n6 → isSnd (f6 q) = true) ∧ (∀ q, q < 8 → isI .i64 (v3 q) = true) ∧ (n4 ≤ 1000000) ∧ (n6 ≤ 1000000), stS ⟨(iOf v1), v2, (fun q => iOf (v3 q)), (ls iOf n4 f4), (iOf v5), (ls zm_ n6 f6)⟩ m (m + 1), r4 ++ r6, [(m, cB ⟨(iOf v1), v2, (fun q => iOf (v3 q)), (ls iOf n4 f4), (iOf v5), (ls zm_ n6 f6)⟩), (m + 1, sB ⟨(iOf v1), v2, (fun q => iOf (v3 q)), (ls iOf n4 f4), (iOf v5), (ls zm_ n6 f6)⟩)]) else none
  | _, _ => none
 | _ => none
theorem sCopied_ok : zj_ Try.prog 86 sCopied := by
 refine ⟨zi_ (by kernel_rfl), fun args h m c v rd wr hs hm hc w0 M β h' w R hrd hwr hst => ?_⟩
 unfold sCopied at hs
 split at hs
 ·rename_i v1 v2 v3 v4 v5 v6
  split at hs
  ·rename_i c4 n4 f4 r4 c6 n6 f6 r6 a4 a6
   obtain ⟨hb, hs⟩ := zl_ hs
   simp only [Option.some.injEq, Prod.mk.injEq] at hs
   obtain ⟨rfl, rfl, rfl, rfl⟩ := hs
   simp only [Bool.and_eq_true] at hb
   obtain ⟨b1, b5⟩ := hb
   obtain ⟨k4, k6, g4, g6, g3, y1, y2⟩ := hc
   obtain ⟨A4, p4, d4, e4, t4⟩ := zg_ R a4 k4 (fun i hi => hrd i (List.mem_append_left _ hi)) (by omega)
   obtain ⟨A6, p6, d6, e6, t6⟩ := zg_ R a6 k6 (fun i hi => hrd i (List.mem_append_right _ hi)) (by omega)
   refine yf_ (views := [⟨1, (ls iOf n4 f4).length, i64S (ls iOf n4 f4), A4, p4⟩, ⟨3, (ls zm_ n6 f6).length, sndsS (ls zm_ n6 f6), A6, p6⟩]) (copied_lit ⟨(iOf v1), v2, (fun q => iOf (v3 q)), (ls iOf n4 f4), (iOf v5), (ls zm_ n6 f6)⟩ p4 p6 (by rw [zb_]; exact y1) (by rw [zb_]; exact y2)) ?_ R hm hwr ?_ ?_ ?_
   ·intro x hx
    simp only [List.mem_cons, List.not_mem_nil, or_false] at hx
    rcases hx with rfl | rfl
    ·exact z8_ t4 e4 g4
    ·exact yy_ t6 e6 g6
   ·intro β1 hv
    simp only [Vd, zb_, and_true] at hv
    obtain ⟨z4, z6⟩ := hv
    simp only [denL, z2_, z0_, z6_, zq_, zb_, z4, z6, d4, d6, zd_ b1, zd_ b5, ← r8Den (β := β) (β1 := β1) g3]
   ·exact yt_
   ·exact yt_
  ·cases hs
 ·cases hs
def sVRight : yq_ := fun args h m => match args with
 | [.agg [v1, v2, v3, v4, v5]] => bif isI .u64 v1 && isI .i64 v2 && isI .i64 v3 && isI .i64 v4 && isI .i64 v5 then some (True, .bool (Evi.rightB ⟨(iOf v1), (iOf v2), (iOf v3), (iOf v4), (iOf v5)⟩), [], []) else none
 | _ => none
theorem sVRight_ok : zj_ Try.prog 109 sVRight := by
 refine ⟨zi_ (by kernel_rfl), fun args h m c v rd wr hs hm hc w0 M β h' w R hrd hwr hst => ?_⟩
 unfold sVRight at hs
 split at hs
 ·rename_i v1 v2 v3 v4 v5
  obtain ⟨hb, hs⟩ := zl_ hs
  simp only [Option.some.injEq, Prod.mk.injEq] at hs
  obtain ⟨rfl, rfl, rfl, rfl⟩ := hs
  simp only [Bool.and_eq_true] at hb
  obtain ⟨⟨⟨⟨b1, b2⟩, b3⟩, b4⟩, b5⟩ := hb
  refine yf_ (views := []) (vright_lit ⟨(iOf v1), (iOf v2), (iOf v3), (iOf v4), (iOf v5)⟩) ?_ R hm hwr ?_ ?_ ?_
  ·intro x hx; cases hx
  ·intro β1 hv
   simp only [denL, z2_, z0_, z6_, zq_, zb_, zd_ b1, zd_ b2, zd_ b3, zd_ b4, zd_ b5]
  ·exact yt_
  ·exact yt_
 ·cases hs
def sSRight : yq_ := fun args h m => match args with
 | [.agg [v1, .bool v2, .arr 8 1 v3, v4, v5, v6], v7] => match y2_ h 1 (.tup []) v4, y2_ h 3 (.tup []) v6 with
  | some (c4, n4, f4, r4), some (c6, n6, f6, r6) => bif isI .i64 v1 && isI .i64 v5 && isI .i64 v7 then some (c4 ∧ c6 ∧ (∀ q, q < n4 → isI .i64 (f4 q) = true) ∧ (∀ q, q < n6 → isSnd (f6 q) = true) ∧ (∀ q, q < 8 → isI .i64 (v3 q) = true) ∧ (n4 ≤ 1000000), .bool (Sta.rightB ⟨(iOf v1), v2, (fun q => iOf (v3 q)), (ls iOf n4 f4), (iOf v5), (ls zm_ n6 f6)⟩ (iOf v7)), r4 ++ r6, []) else none
  | _, _ => none
 | _ => none
theorem sSRight_ok : zj_ Try.prog 110 sSRight := by
 refine ⟨zi_ (by kernel_rfl), fun args h m c v rd wr hs hm hc w0 M β h' w R hrd hwr hst => ?_⟩
 unfold sSRight at hs
 split at hs
 ·rename_i v1 v2 v3 v4 v5 v6 v7
  split at hs
  ·rename_i c4 n4 f4 r4 c6 n6 f6 r6 a4 a6
   obtain ⟨hb, hs⟩ := zl_ hs
   simp only [Option.some.injEq, Prod.mk.injEq] at hs
   obtain ⟨rfl, rfl, rfl, rfl⟩ := hs
   simp only [Bool.and_eq_true] at hb
   obtain ⟨⟨b1, b5⟩, b7⟩ := hb
   obtain ⟨k4, k6, g4, g6, g3, y1⟩ := hc
   obtain ⟨A4, p4, d4, e4, t4⟩ := zg_ R a4 k4 (fun i hi => hrd i (List.mem_append_left _ hi)) (by omega)
   obtain ⟨A6, p6, d6, e6, t6⟩ := zg_ R a6 k6 (fun i hi => hrd i (List.mem_append_right _ hi)) (by omega)
   refine yf_ (views := [⟨1, (ls iOf n4 f4).length, i64S (ls iOf n4 f4), A4, p4⟩, ⟨3, (ls zm_ n6 f6).length, sndsS (ls zm_ n6 f6), A6, p6⟩]) (sright_lit ⟨(iOf v1), v2, (fun q => iOf (v3 q)), (ls iOf n4 f4), (iOf v5), (ls zm_ n6 f6)⟩ (iOf v7) p4 p6 (by rw [zb_]; exact y1)) ?_ R hm hwr ?_ ?_ ?_
   ·intro x hx
    simp only [List.mem_cons, List.not_mem_nil, or_false] at hx
    rcases hx with rfl | rfl
    ·exact z8_ t4 e4 g4
    ·exact yy_ t6 e6 g6
   ·intro β1 hv
    simp only [Vd, zb_, and_true] at hv
    obtain ⟨z4, z6⟩ := hv
    simp only [denL, z2_, z0_, z6_, zq_, zb_, z4, z6, d4, d6, zd_ b1, zd_ b5, zd_ b7, ← r8Den (β := β) (β1 := β1) g3]
   ·exact yt_
   ·exact yt_
  ·cases hs
 ·cases hs
end Go.Proofs.Ytmljmabbopkpiaa.Vm
end
section
namespace Go.Proofs.Ytmljmabbopkpiaa.Vm
open Go.RowKit
attribute [local push_cast] prS sndsS i64S nav_ins nav_ins0 nav_ins1 nav_ins2 nav_ins3 nav_ins4 nav_snd nav_snd0 nav_snd1 nav_snd2 zy_ yi_ ym_ yh_ yd_ yc_ iOf JM cM1 rS mS macP aF bF cF putF jumpIfF sApply sDraw JE inR inN
theorem snd_app {l : List Snd} {y : Snd} {q : Nat} (hq : q < l.length + 1) (z : SV) (β : Env) : (SV.ite (decide (q < l.length)) (sndS (l.getD q ⟨0, 0, 0⟩)) ([sndS y].getD (q - l.length) z)).cl β = ((l ++ [y]).getD q ⟨0, 0, 0⟩).cells := by
 rw [ite_eq]
 by_cases h : q < l.length
 ·simp only [h, decide_true, cond_true, List.getD_eq_getElem?_getD, List.getElem?_append_left h]
  rw [isSnd_cl (ym_ _), yh_]
 ·obtain rfl : q = l.length := by omega
  simp only [Nat.lt_irrefl, decide_false, cond_false, Nat.sub_self, List.getD_eq_getElem?_getD, List.getElem?_append_right (Nat.le_refl _), List.getElem?_cons_zero, Option.getD_some]
  rw [isSnd_cl (ym_ _), yh_]
theorem m_send : zj_ Try.prog 139 (mS (kF 8 true)) := mS_ok (by kernel_rfl) fun ar s v x cond val s' x' mv hF hc => by
 unfold kF at hF
 split at hF
 ·cases hF
  obtain ⟨ho, R, V, S⟩ := hc
  obtain ⟨o0, o1, a0, a1, b0, b1, c0, c1, n0, n1⟩ := R.ok
  have ha := R.a
  have hb := R.b
  have hcc := R.c
  have s0 := S.a0
  have s1 := S.a1
  have d0 := S.d0
  have d1 := S.d1
  have sc := S.c1
  have sn := S.n1
  have v0 := V.p0
  have v1 := V.p1
  have v2 := V.t0
  have v3 := V.t1
  have v4 := V.o0
  have v5 := V.l0
  by_cases q0 : v.ports ≤ x.n
  ·have hE : doE s v x = 188 := by simp [doE, sendE, ho, q0]
   have hS : doS s v x = s := doS_bad (by rw [hE]; decide)
   rw [hE, hS]
   refine ⟨fun _ => rfl, fun _ => trivial, fun _ _ => rfl, fun _ _ _ => trivial, ?_⟩
   refine zf_ (fn := Try.f139) 4 72 0 rfl rfl rfl rfl rfl u7_ rfl fun w0 M E hro => ?_
   repeat' (first | refine Ctl.h ?_ | ((with_reducible intro hif); first | (focus (cases hif; done)) | ((try simp only [JH] at hif); try (exfalso; omega))) | ((with_reducible first | apply J22 ys_ za_ | apply J23 fol ys_ za_ | apply J24); (·rfl); (· (simp only [push_cast, ↓JP, Nat.reduceAdd, Nat.reduceEqDiff, Nat.reduceLT, Nat.reduceMul, Nat.reduceLeDiff, reduceCtorEq, reduceIte, ↓JK, Bool.cond_decide, q0]; rfl)); (try kernel_rfl); try exact y6_) | fail)
   apply At.endsPick [0, 1, 2, 3, 3] za_ (fn := Try.f139) (rs := [.tmp 2]) Anc.refl hro (lb_ rfl) rfl
   ·exact yo_
   ·exact k14_
   ·rfl
   ·rfl
   ·rfl
   ·exact k80_
   ·rfl
   ·exact yt_
   ·exact k7_
   ·exact fun β => rfl
   ·exact yt_
  by_cases q1 : s.regs x.a.toNat < v.look
  ·have hE : doE s v x = 189 := by simp [doE, sendE, ho, q0, q1]
   have hS : doS s v x = s := doS_bad (by rw [hE]; decide)
   rw [hE, hS]
   refine ⟨fun _ => rfl, fun _ => trivial, fun _ _ => rfl, fun _ _ _ => trivial, ?_⟩
   refine zf_ (fn := Try.f139) 4 72 0 rfl rfl rfl rfl rfl u7_ rfl fun w0 M E hro => ?_
   repeat' (first | refine Ctl.h ?_ | ((with_reducible intro hif); first | (focus (cases hif; done)) | ((try simp only [JH] at hif); try (exfalso; omega))) | ((with_reducible first | apply J22 ys_ za_ | apply J23 fol ys_ za_ | apply J24); (·rfl); (· (simp only [push_cast, ↓JP, Nat.reduceAdd, Nat.reduceEqDiff, Nat.reduceLT, Nat.reduceMul, Nat.reduceLeDiff, reduceCtorEq, reduceIte, ↓JK, Bool.cond_decide, q0, q1]; rfl)); (try kernel_rfl); try exact y6_) | fail)
   apply At.endsPick [0, 1, 2, 3, 3] za_ (fn := Try.f139) (rs := [.tmp 2]) Anc.refl hro (lb_ rfl) rfl
   ·exact yo_
   ·exact k14_
   ·rfl
   ·rfl
   ·rfl
   ·exact k80_
   ·rfl
   ·exact yt_
   ·exact k7_
   ·exact fun β => rfl
   ·exact yt_
  by_cases q2 : 281474976710656 - v.now < s.regs x.a.toNat
  ·have hE : doE s v x = 1800 := by simp [doE, sendE, ho, q0, q1, q2]
   have hS : doS s v x = s := doS_bad (by rw [hE]; decide)
   rw [hE, hS]
   refine ⟨fun _ => rfl, fun _ => trivial, fun _ _ => rfl, fun _ _ _ => trivial, ?_⟩
   refine zf_ (fn := Try.f139) 4 72 0 rfl rfl rfl rfl rfl u7_ rfl fun w0 M E hro => ?_
   repeat' (first | refine Ctl.h ?_ | ((with_reducible intro hif); first | (focus (cases hif; done)) | ((try simp only [JH] at hif); try (exfalso; omega))) | ((with_reducible first | apply J22 ys_ za_ | apply J23 fol ys_ za_ | apply J24); (·rfl); (· (simp only [push_cast, ↓JP, Nat.reduceAdd, Nat.reduceEqDiff, Nat.reduceLT, Nat.reduceMul, Nat.reduceLeDiff, reduceCtorEq, reduceIte, ↓JK, Bool.cond_decide, q0, q1, q2]; rfl)); (try kernel_rfl); try exact y6_) | fail)
   apply At.endsPick [0, 1, 2, 3, 3] za_ (fn := Try.f139) (rs := [.tmp 2]) Anc.refl hro (lb_ rfl) rfl
   ·exact yo_
   ·exact k14_
   ·rfl
   ·rfl
   ·rfl
   ·exact k80_
   ·rfl
   ·exact yt_
   ·exact k7_
   ·exact fun β => rfl
   ·exact yt_
  by_cases q3 : 256 ≤ s.sends.length
  ·have hE : doE s v x = 1801 := by simp [doE, sendE, ho, q0, q1, q2, q3]
   have hS : doS s v x = s := doS_bad (by rw [hE]; decide)
   rw [hE, hS]
   refine ⟨fun _ => rfl, fun _ => trivial, fun _ _ => rfl, fun _ _ _ => trivial, ?_⟩
   refine zf_ (fn := Try.f139) 4 72 0 rfl rfl rfl rfl rfl u7_ rfl fun w0 M E hro => ?_
   repeat' (first | refine Ctl.h ?_ | ((with_reducible intro hif); first | (focus (cases hif; done)) | ((try simp only [JH] at hif); try (exfalso; omega))) | ((with_reducible first | apply J22 ys_ za_ | apply J23 fol ys_ za_ | apply J24); (·rfl); (· exact k83_); (try kernel_rfl); try exact y6_) | fail)
   apply At.endsPick [0, 1, 2, 3, 3] za_ (fn := Try.f139) (rs := [.tmp 2]) Anc.refl hro (lb_ rfl) rfl
   ·exact yo_
   ·exact k14_
   ·rfl
   ·rfl
   ·rfl
   ·exact k80_
   ·rfl
   ·exact yt_
   ·exact k7_
   ·exact fun β => rfl
   ·exact yt_
  have hE : doE s v x = 0 := by simp [doE, sendE, ho, q0, q1, q2, q3]
  have hS : doS s v x = { s with at_ := s.at_ + 1, sends := s.sends ++ [⟨x.n, s.regs x.a.toNat, s.regs x.b.toNat⟩] } := by simp [doS, hE, ho]
  rw [hE, hS]
  refine ⟨fun _ => rfl, fun _ => trivial, fun _ _ => rfl, fun _ _ _ => trivial, ?_⟩
  have hx := R.snd ho
  have hY : ∀ σ, Less (.own 64 (.arr (s.sends.length + 1) 3 fun q => SV.ite (decide (q < s.sends.length)) (sndS (s.sends.getD q ⟨0, 0, 0⟩)) ([SV.agg [.int .i64 x.n, .int .i64 (s.regs x.a.toNat), .int .i64 (s.regs x.b.toNat)]].getD (q - s.sends.length) (.agg [.nat .i64 0, .nat .i64 0, .nat .i64 0]))) false) ((HB.own 64 (.arr (s.sends ++ [(⟨x.n, s.regs x.a.toNat, s.regs x.b.toNat⟩ : Snd)]).length 3 (sndsS (s.sends ++ [(⟨x.n, s.regs x.a.toNat, s.regs x.b.toNat⟩ : Snd)]))) false).ren σ) := fun σ => less_snd s.sends ⟨x.n, s.regs x.a.toNat, s.regs x.b.toNat⟩ rfl fun q hq β => snd_app (y := ⟨x.n, s.regs x.a.toNat, s.regs x.b.toNat⟩) hq _ β
  refine zf_ (fn := Try.f139) 4 72 0 rfl rfl rfl rfl rfl u7_ rfl fun w0 M E hro => ?_
  repeat' (first | refine Ctl.h ?_ | ((with_reducible intro hif); first | (focus (cases hif; done)) | ((try simp only [JH] at hif); try (exfalso; omega))) | ((with_reducible first | apply J22 ys_ za_ | apply J23 fol ys_ za_ | apply J24); (·rfl); (· exact k83_); (try kernel_rfl); try exact y6_) | fail)
  apply At.endsPick [0, 1, 2, 3, 5] za_ (fn := Try.f139) (rs := [.tmp 2]) Anc.refl hro (lb_ rfl) rfl
  ·exact yo_
  ·exact k14_
  ·rfl
  ·rfl
  ·rfl
  ·exact k80_
  ·rfl
  ·exact yt_
  ·exact k7_
  ·exact fun β => rfl
  ·exact yt_
 ·cases hF
end Go.Proofs.Ytmljmabbopkpiaa.Vm
end
section
namespace Go.Proofs.Ytmljmabbopkpiaa.Vm
open Go.RowKit
attribute [local push_cast] prS sndsS i64S nav_ins nav_ins0 nav_ins1 nav_ins2 nav_ins3 nav_ins4 nav_snd nav_snd0 nav_snd1 nav_snd2 zy_ yi_ ym_ yh_ yd_ yc_ iOf JM mS macP kF wF JE inR inN
def cD : FuncId → Option yq_ := yz_ [(132, mS (kF 1 false)), (133, mS (kF 2 false)), (134, mS (kF 3 false)), (135, mS (kF 4 false)), (136, mS (kF 5 false)), (137, mS (kF 6 false)), (138, mS (kF 7 false)), (139, mS (kF 8 true)), (140, mS (kF 9 false)), (141, mS (kF 10 false)), (142, mS (kF 11 false)), (143, mS wF)]
theorem y4_ : ∀ f S, cD f = some S → zj_ Try.prog f S := zp_ ⟨m_halt, m_fail, m_set, m_move, m_load, m_store, m_draw, m_send, m_jump, m_jumpZero, m_jumpNeg, m_word, trivial⟩
def kindF : Nat → SV := fun j => (SV.ite (decide (j = 10)) (.agg [.nat .u8 11, .fn 142 []]) (SV.ite (decide (j = 9)) (.agg [.nat .u8 10, .fn 141 []]) (SV.ite (decide (j = 8)) (.agg [.nat .u8 9, .fn 140 []]) (SV.ite (decide (j = 7)) (.agg [.nat .u8 8, .fn 139 []]) (SV.ite (decide (j = 6)) (.agg [.nat .u8 7, .fn 138 []]) (SV.ite (decide (j = 5)) (.agg [.nat .u8 6, .fn 137 []]) (SV.ite (decide (j = 4)) (.agg [.nat .u8 5, .fn 136 []]) (SV.ite (decide (j = 3)) (.agg [.nat .u8 4, .fn 135 []]) (SV.ite (decide (j = 2)) (.agg [.nat .u8 3, .fn 134 []]) (SV.ite (decide (j = 1)) (.agg [.nat .u8 2, .fn 133 []]) (SV.ite (decide (j = 0)) (.agg [.nat .u8 1, .fn 132 []]) (.agg [.nat .u8 0, .nilf]))))))))))))
theorem kindF_0 : kindF 0 = .agg [.nat .u8 1, .fn 132 []] := rfl
theorem kindF_1 : kindF 1 = .agg [.nat .u8 2, .fn 133 []] := rfl
theorem kindF_2 : kindF 2 = .agg [.nat .u8 3, .fn 134 []] := rfl
theorem kindF_3 : kindF 3 = .agg [.nat .u8 4, .fn 135 []] := rfl
theorem kindF_4 : kindF 4 = .agg [.nat .u8 5, .fn 136 []] := rfl
theorem kindF_5 : kindF 5 = .agg [.nat .u8 6, .fn 137 []] := rfl
theorem kindF_6 : kindF 6 = .agg [.nat .u8 7, .fn 138 []] := rfl
theorem kindF_7 : kindF 7 = .agg [.nat .u8 8, .fn 139 []] := rfl
theorem kindF_8 : kindF 8 = .agg [.nat .u8 9, .fn 140 []] := rfl
theorem kindF_9 : kindF 9 = .agg [.nat .u8 10, .fn 141 []] := rfl
theorem kindF_10 : kindF 10 = .agg [.nat .u8 11, .fn 142 []] := rfl
def doF : MF := fun ar s v x => match ar with
 | [] => some (RI x ∧ VOk v ∧ SOk s, fun _ => .int .i64 (doE s v x), doS s v x, x, true)
 | _ => none
theorem m_do : zj_ Try.prog 111 (mS doF) := mS_ok (by kernel_rfl) fun ar s v x cond val s' x' mv hF hc => by
 unfold doF at hF
 split at hF
 ·cases hF
  obtain ⟨R, V, S⟩ := hc
  obtain ⟨o0, o1, _, _, _, _, _, _, _, _⟩ := R.ok
  have hcls := R.cls
  refine ⟨fun _ => rfl, fun _ => trivial, fun _ _ => rfl, fun _ _ _ => trivial, ?_⟩
  refine zf_ (fn := Try.f111) 4 35 0 rfl rfl rfl rfl rfl u7_ rfl fun w0 M E hro => ?_
  repeat' (first | refine Ctl.h ?_ | ((with_reducible intro hif); first | (focus (cases hif; done)) | ((try simp only [JH] at hif); try (exfalso; omega))) | ((with_reducible first | apply J22 y4_ za_ | apply J23 fol y4_ za_ | apply J24); (·rfl); (· exact k84_); (try kernel_rfl); try exact y6_) | fail)
  refine WF.loopAt (fun k => k ≤ 11 ∧ ∀ j : Nat, j < k → x.op ≠ (j : Int) + 1) (fun k => [(0, .ptr 1 []), (16, .arr 11 2 kindF), (17, .nat .i64 k)]) (fun k => [.gone, mB s v x 2 3, cB s, sB s]) (fun k => 11 - k) 0 ⟨by omega, fun j h1 => by omega⟩ ?_ ?_ rfl ?_ ?_ rfl ?_
  ·exact k8_
  ·exact k5_
  ·exact yt_
  ·exact yt_
  rintro k ⟨hk, hop⟩
  have hk12 : k = 0 ∨ k = 1 ∨ k = 2 ∨ k = 3 ∨ k = 4 ∨ k = 5 ∨ k = 6 ∨ k = 7 ∨ k = 8 ∨ k = 9 ∨ k = 10 ∨ k = 11 := by omega
  rcases hk12 with rfl | rfl | rfl | rfl | rfl | rfl | rfl | rfl | rfl | rfl | rfl | rfl
  ·by_cases ho : x.op = 1
   ·repeat' (first | refine Ctl.h ?_ | ((with_reducible intro hif); first | (focus (cases hif; done)) | ((try simp only [JH] at hif); try (exfalso; omega))) | ((with_reducible first | apply J22 y4_ za_ | apply J23 fol y4_ za_ | apply J24); (·rfl); (· exact k85_); (try kernel_rfl); try exact y6_) | fail)
    apply At.endsPick [0, 1, 2, 3, 3] za_ (fn := Try.f111) (rs := [.tmp 2]) Anc.refl hro (lb_ rfl) rfl
    ·exact yo_
    ·exact k14_
    ·rfl
    ·rfl
    ·rfl
    ·exact k81_
    ·rfl
    ·exact yt_
    ·exact k7_
    ·exact fun β => rfl
    ·exact yt_
   ·repeat' (first | refine Ctl.h ?_ | ((with_reducible intro hif); first | (focus (cases hif; done)) | ((try simp only [JH] at hif); try (exfalso; omega))) | ((with_reducible first | apply J22 y4_ za_ | apply J23 fol y4_ za_ | apply J24); (·rfl); (· exact k85_); (try kernel_rfl); try exact y6_) | fail)
    refine At.next 1 ?_ ?_ ?_ rfl ?_ ?_ rfl
    ·refine ⟨⟨by omega, fun j h1 => ?_⟩, by omega⟩; by_cases e : j = 0; (subst e; exact ho); exact hop j (by omega)
    ·exact k8_
    ·exact k5_
    ·exact yt_
    ·exact yt_
  ·by_cases ho : x.op = 2
   ·repeat' (first | refine Ctl.h ?_ | ((with_reducible intro hif); first | (focus (cases hif; done)) | ((try simp only [JH] at hif); try (exfalso; omega))) | ((with_reducible first | apply J22 y4_ za_ | apply J23 fol y4_ za_ | apply J24); (·rfl); (· exact k85_); (try kernel_rfl); try exact y6_) | fail)
    apply At.endsPick [0, 1, 2, 3, 3] za_ (fn := Try.f111) (rs := [.tmp 2]) Anc.refl hro (lb_ rfl) rfl
    ·exact yo_
    ·exact k14_
    ·rfl
    ·rfl
    ·rfl
    ·exact k81_
    ·rfl
    ·exact yt_
    ·exact k7_
    ·exact fun β => rfl
    ·exact yt_
   ·repeat' (first | refine Ctl.h ?_ | ((with_reducible intro hif); first | (focus (cases hif; done)) | ((try simp only [JH] at hif); try (exfalso; omega))) | ((with_reducible first | apply J22 y4_ za_ | apply J23 fol y4_ za_ | apply J24); (·rfl); (· exact k85_); (try kernel_rfl); try exact y6_) | fail)
    refine At.next 2 ?_ ?_ ?_ rfl ?_ ?_ rfl
    ·refine ⟨⟨by omega, fun j h1 => ?_⟩, by omega⟩; by_cases e : j = 1; (subst e; exact ho); exact hop j (by omega)
    ·exact k8_
    ·exact k5_
    ·exact yt_
    ·exact yt_
  ·by_cases ho : x.op = 3
   ·repeat' (first | refine Ctl.h ?_ | ((with_reducible intro hif); first | (focus (cases hif; done)) | ((try simp only [JH] at hif); try (exfalso; omega))) | ((with_reducible first | apply J22 y4_ za_ | apply J23 fol y4_ za_ | apply J24); (·rfl); (· exact k85_); (try kernel_rfl); try exact y6_) | fail)
    apply At.endsPick [0, 1, 2, 3, 3] za_ (fn := Try.f111) (rs := [.tmp 2]) Anc.refl hro (lb_ rfl) rfl
    ·exact yo_
    ·exact k14_
    ·rfl
    ·rfl
    ·rfl
    ·exact k81_
    ·rfl
    ·exact yt_
    ·exact k7_
    ·exact fun β => rfl
    ·exact yt_
   ·repeat' (first | refine Ctl.h ?_ | ((with_reducible intro hif); first | (focus (cases hif; done)) | ((try simp only [JH] at hif); try (exfalso; omega))) | ((with_reducible first | apply J22 y4_ za_ | apply J23 fol y4_ za_ | apply J24); (·rfl); (· exact k85_); (try kernel_rfl); try exact y6_) | fail)
    refine At.next 3 ?_ ?_ ?_ rfl ?_ ?_ rfl
    ·refine ⟨⟨by omega, fun j h1 => ?_⟩, by omega⟩; by_cases e : j = 2; (subst e; exact ho); exact hop j (by omega)
    ·exact k8_
    ·exact k5_
    ·exact yt_
    ·exact yt_
  ·by_cases ho : x.op = 4
   ·repeat' (first | refine Ctl.h ?_ | ((with_reducible intro hif); first | (focus (cases hif; done)) | ((try simp only [JH] at hif); try (exfalso; omega))) | ((with_reducible first | apply J22 y4_ za_ | apply J23 fol y4_ za_ | apply J24); (·rfl); (· exact k85_); (try kernel_rfl); try exact y6_) | fail)
    apply At.endsPick [0, 1, 2, 3, 3] za_ (fn := Try.f111) (rs := [.tmp 2]) Anc.refl hro (lb_ rfl) rfl
    ·exact yo_
    ·exact k14_
    ·rfl
    ·rfl
    ·rfl
    ·exact k81_
    ·rfl
    ·exact yt_
    ·exact k7_
    ·exact fun β => rfl
    ·exact yt_
   ·repeat' (first | refine Ctl.h ?_ | ((with_reducible intro hif); first | (focus (cases hif; done)) | ((try simp only [JH] at hif); try (exfalso; omega))) | ((with_reducible first | apply J22 y4_ za_ | apply J23 fol y4_ za_ | apply J24); (·rfl); (· exact k85_); (try kernel_rfl); try exact y6_) | fail)
    refine At.next 4 ?_ ?_ ?_ rfl ?_ ?_ rfl
    ·refine ⟨⟨by omega, fun j h1 => ?_⟩, by omega⟩; by_cases e : j = 3; (subst e; exact ho); exact hop j (by omega)
    ·exact k8_
    ·exact k5_
    ·exact yt_
    ·exact yt_
  ·by_cases ho : x.op = 5
   ·repeat' (first | refine Ctl.h ?_ | ((with_reducible intro hif); first | (focus (cases hif; done)) | ((try simp only [JH] at hif); try (exfalso; omega))) | ((with_reducible first | apply J22 y4_ za_ | apply J23 fol y4_ za_ | apply J24); (·rfl); (· exact k85_); (try kernel_rfl); try exact y6_) | fail)
    apply At.endsPick [0, 1, 2, 3, 3] za_ (fn := Try.f111) (rs := [.tmp 2]) Anc.refl hro (lb_ rfl) rfl
    ·exact yo_
    ·exact k14_
    ·rfl
    ·rfl
    ·rfl
    ·exact k81_
    ·rfl
    ·exact yt_
    ·exact k7_
    ·exact fun β => rfl
    ·exact yt_
   ·repeat' (first | refine Ctl.h ?_ | ((with_reducible intro hif); first | (focus (cases hif; done)) | ((try simp only [JH] at hif); try (exfalso; omega))) | ((with_reducible first | apply J22 y4_ za_ | apply J23 fol y4_ za_ | apply J24); (·rfl); (· exact k85_); (try kernel_rfl); try exact y6_) | fail)
    refine At.next 5 ?_ ?_ ?_ rfl ?_ ?_ rfl
    ·refine ⟨⟨by omega, fun j h1 => ?_⟩, by omega⟩; by_cases e : j = 4; (subst e; exact ho); exact hop j (by omega)
    ·exact k8_
    ·exact k5_
    ·exact yt_
    ·exact yt_
  ·by_cases ho : x.op = 6
   ·repeat' (first | refine Ctl.h ?_ | ((with_reducible intro hif); first | (focus (cases hif; done)) | ((try simp only [JH] at hif); try (exfalso; omega))) | ((with_reducible first | apply J22 y4_ za_ | apply J23 fol y4_ za_ | apply J24); (·rfl); (· exact k85_); (try kernel_rfl); try exact y6_) | fail)
    apply At.endsPick [0, 1, 2, 3, 3] za_ (fn := Try.f111) (rs := [.tmp 2]) Anc.refl hro (lb_ rfl) rfl
    ·exact yo_
    ·exact k14_
    ·rfl
    ·rfl
    ·rfl
    ·exact k81_
    ·rfl
    ·exact yt_
    ·exact k7_
    ·exact fun β => rfl
    ·exact yt_
   ·repeat' (first | refine Ctl.h ?_ | ((with_reducible intro hif); first | (focus (cases hif; done)) | ((try simp only [JH] at hif); try (exfalso; omega))) | ((with_reducible first | apply J22 y4_ za_ | apply J23 fol y4_ za_ | apply J24); (·rfl); (· exact k85_); (try kernel_rfl); try exact y6_) | fail)
    refine At.next 6 ?_ ?_ ?_ rfl ?_ ?_ rfl
    ·refine ⟨⟨by omega, fun j h1 => ?_⟩, by omega⟩; by_cases e : j = 5; (subst e; exact ho); exact hop j (by omega)
    ·exact k8_
    ·exact k5_
    ·exact yt_
    ·exact yt_
  ·by_cases ho : x.op = 7
   ·repeat' (first | refine Ctl.h ?_ | ((with_reducible intro hif); first | (focus (cases hif; done)) | ((try simp only [JH] at hif); try (exfalso; omega))) | ((with_reducible first | apply J22 y4_ za_ | apply J23 fol y4_ za_ | apply J24); (·rfl); (· exact k85_); (try kernel_rfl); try exact y6_) | fail)
    apply At.endsPick [0, 1, 2, 3, 3] za_ (fn := Try.f111) (rs := [.tmp 2]) Anc.refl hro (lb_ rfl) rfl
    ·exact yo_
    ·exact k14_
    ·rfl
    ·rfl
    ·rfl
    ·exact k81_
    ·rfl
    ·exact yt_
    ·exact k7_
    ·exact fun β => rfl
    ·exact yt_
   ·repeat' (first | refine Ctl.h ?_ | ((with_reducible intro hif); first | (focus (cases hif; done)) | ((try simp only [JH] at hif); try (exfalso; omega))) | ((with_reducible first | apply J22 y4_ za_ | apply J23 fol y4_ za_ | apply J24); (·rfl); (· exact k85_); (try kernel_rfl); try exact y6_) | fail)
    refine At.next 7 ?_ ?_ ?_ rfl ?_ ?_ rfl
    ·refine ⟨⟨by omega, fun j h1 => ?_⟩, by omega⟩; by_cases e : j = 6; (subst e; exact ho); exact hop j (by omega)
    ·exact k8_
    ·exact k5_
    ·exact yt_
    ·exact yt_
  ·by_cases ho : x.op = 8
   ·repeat' (first | refine Ctl.h ?_ | ((with_reducible intro hif); first | (focus (cases hif; done)) | ((try simp only [JH] at hif); try (exfalso; omega))) | ((with_reducible first | apply J22 y4_ za_ | apply J23 fol y4_ za_ | apply J24); (·rfl); (· exact k85_); (try kernel_rfl); try exact y6_) | fail)
    apply At.endsPick [0, 1, 2, 3, 5] za_ (fn := Try.f111) (rs := [.tmp 2]) Anc.refl hro (lb_ rfl) rfl
    ·exact yo_
    ·exact k14_
    ·rfl
    ·rfl
    ·rfl
    ·exact k81_
    ·rfl
    ·exact yt_
    ·exact k7_
    ·exact fun β => rfl
    ·exact yt_
   ·repeat' (first | refine Ctl.h ?_ | ((with_reducible intro hif); first | (focus (cases hif; done)) | ((try simp only [JH] at hif); try (exfalso; omega))) | ((with_reducible first | apply J22 y4_ za_ | apply J23 fol y4_ za_ | apply J24); (·rfl); (· exact k85_); (try kernel_rfl); try exact y6_) | fail)
    refine At.next 8 ?_ ?_ ?_ rfl ?_ ?_ rfl
    ·refine ⟨⟨by omega, fun j h1 => ?_⟩, by omega⟩; by_cases e : j = 7; (subst e; exact ho); exact hop j (by omega)
    ·exact k8_
    ·exact k5_
    ·exact yt_
    ·exact yt_
  ·by_cases ho : x.op = 9
   ·repeat' (first | refine Ctl.h ?_ | ((with_reducible intro hif); first | (focus (cases hif; done)) | ((try simp only [JH] at hif); try (exfalso; omega))) | ((with_reducible first | apply J22 y4_ za_ | apply J23 fol y4_ za_ | apply J24); (·rfl); (· exact k85_); (try kernel_rfl); try exact y6_) | fail)
    apply At.endsPick [0, 1, 2, 3, 3] za_ (fn := Try.f111) (rs := [.tmp 2]) Anc.refl hro (lb_ rfl) rfl
    ·exact yo_
    ·exact k14_
    ·rfl
    ·rfl
    ·rfl
    ·exact k81_
    ·rfl
    ·exact yt_
    ·exact k7_
    ·exact fun β => rfl
    ·exact yt_
   ·repeat' (first | refine Ctl.h ?_ | ((with_reducible intro hif); first | (focus (cases hif; done)) | ((try simp only [JH] at hif); try (exfalso; omega))) | ((with_reducible first | apply J22 y4_ za_ | apply J23 fol y4_ za_ | apply J24); (·rfl); (· exact k85_); (try kernel_rfl); try exact y6_) | fail)
    refine At.next 9 ?_ ?_ ?_ rfl ?_ ?_ rfl
    ·refine ⟨⟨by omega, fun j h1 => ?_⟩, by omega⟩; by_cases e : j = 8; (subst e; exact ho); exact hop j (by omega)
    ·exact k8_
    ·exact k5_
    ·exact yt_
    ·exact yt_
  ·by_cases ho : x.op = 10
   ·repeat' (first | refine Ctl.h ?_ | ((with_reducible intro hif); first | (focus (cases hif; done)) | ((try simp only [JH] at hif); try (exfalso; omega))) | ((with_reducible first | apply J22 y4_ za_ | apply J23 fol y4_ za_ | apply J24); (·rfl); (· exact k85_); (try kernel_rfl); try exact y6_) | fail)
    apply At.endsPick [0, 1, 2, 3, 3] za_ (fn := Try.f111) (rs := [.tmp 2]) Anc.refl hro (lb_ rfl) rfl
    ·exact yo_
    ·exact k14_
    ·rfl
    ·rfl
    ·rfl
    ·exact k81_
    ·rfl
    ·exact yt_
    ·exact k7_
    ·exact fun β => rfl
    ·exact yt_
   ·repeat' (first | refine Ctl.h ?_ | ((with_reducible intro hif); first | (focus (cases hif; done)) | ((try simp only [JH] at hif); try (exfalso; omega))) | ((with_reducible first | apply J22 y4_ za_ | apply J23 fol y4_ za_ | apply J24); (·rfl); (· exact k85_); (try kernel_rfl); try exact y6_) | fail)
    refine At.next 10 ?_ ?_ ?_ rfl ?_ ?_ rfl
    ·refine ⟨⟨by omega, fun j h1 => ?_⟩, by omega⟩; by_cases e : j = 9; (subst e; exact ho); exact hop j (by omega)
    ·exact k8_
    ·exact k5_
    ·exact yt_
    ·exact yt_
  ·by_cases ho : x.op = 11
   ·repeat' (first | refine Ctl.h ?_ | ((with_reducible intro hif); first | (focus (cases hif; done)) | ((try simp only [JH] at hif); try (exfalso; omega))) | ((with_reducible first | apply J22 y4_ za_ | apply J23 fol y4_ za_ | apply J24); (·rfl); (· exact k85_); (try kernel_rfl); try exact y6_) | fail)
    apply At.endsPick [0, 1, 2, 3, 3] za_ (fn := Try.f111) (rs := [.tmp 2]) Anc.refl hro (lb_ rfl) rfl
    ·exact yo_
    ·exact k14_
    ·rfl
    ·rfl
    ·rfl
    ·exact k81_
    ·rfl
    ·exact yt_
    ·exact k7_
    ·exact fun β => rfl
    ·exact yt_
   ·repeat' (first | refine Ctl.h ?_ | ((with_reducible intro hif); first | (focus (cases hif; done)) | ((try simp only [JH] at hif); try (exfalso; omega))) | ((with_reducible first | apply J22 y4_ za_ | apply J23 fol y4_ za_ | apply J24); (·rfl); (· exact k85_); (try kernel_rfl); try exact y6_) | fail)
    refine At.next 11 ?_ ?_ ?_ rfl ?_ ?_ rfl
    ·refine ⟨⟨by omega, fun j h1 => ?_⟩, by omega⟩; by_cases e : j = 10; (subst e; exact ho); exact hop j (by omega)
    ·exact k8_
    ·exact k5_
    ·exact yt_
    ·exact yt_
  ·have h11 : ∀ j : Nat, j < 11 → x.op ≠ (j : Int) + 1 := hop
   have hw : 32 < x.op := by
    have q0 := h11 0 (by omega)
    have q1 := h11 1 (by omega)
    have q2 := h11 2 (by omega)
    have q3 := h11 3 (by omega)
    have q4 := h11 4 (by omega)
    have q5 := h11 5 (by omega)
    have q6 := h11 6 (by omega)
    have q7 := h11 7 (by omega)
    have q8 := h11 8 (by omega)
    have q9 := h11 9 (by omega)
    have q10 := h11 10 (by omega)
    omega
   repeat' (first | refine Ctl.h ?_ | ((with_reducible intro hif); first | (focus (cases hif; done)) | ((try simp only [JH] at hif); try (exfalso; omega))) | ((with_reducible first | apply J22 y4_ za_ | apply J23 fol y4_ za_ | apply J24); (·rfl); (· exact k84_); (try kernel_rfl); try exact y6_) | fail)
   apply At.endsPick [0, 1, 2, 3, 3] za_ (fn := Try.f111) (rs := [.tmp 2]) Anc.refl hro (lb_ rfl) rfl
   ·exact yo_
   ·exact k14_
   ·rfl
   ·rfl
   ·rfl
   ·exact k81_
   ·rfl
   ·exact yt_
   ·exact k7_
   ·exact fun β => rfl
   ·exact yt_
 ·cases hF
end Go.Proofs.Ytmljmabbopkpiaa.Vm
end
section
namespace Go.Proofs.Ytmljmabbopkpiaa.Vm
open Go.RowKit
def Bun1 (ρ : Nat → Nat) (c : HB) : HB → Prop
 | .own t u ex => Less c (.own t (u.ren ρ) ex)
 | .raw _ => False
 | b => Fit ρ b c
def BunL (ρ : Nat → Nat) (h : HM) : List HB → List Nat → Prop
 | [], _ => True
 | b :: L, n => match n with
  | j :: n => Bun1 ρ (h j) b ∧ BunL ρ h L n
  | [] => False
theorem bunL_get {ρ : Nat → Nat} {h : HM} : ∀ {L : List HB} {l : List Nat}, BunL ρ h L l → ∀ i, i < L.length → Bun1 ρ (h (l.getD i 0)) (hp L i)
 | [], l, _, i, hi => by simp at hi
 | b :: L, [], hf, _, _ => by exact hf.elim
 | b :: L, j :: l, hf, 0, _ => hf.1
 | b :: L, j :: l, hf, i + 1, hi => by
  have := bunL_get hf.2 i (by simpa using hi)
  unfold hp at this ⊢
  simpa using this
theorem fitL_of {ρ : Nat → Nat} {h : HM} : ∀ {L : List HB} {l : List Nat}, l.length = L.length → (∀ i, i < L.length → Fit ρ (hp L i) (h (l.getD i 0))) → FitL ρ h L l
 | [], l, _, _ => trivial
 | b :: L, [], hl, _ => by simp at hl
 | b :: L, j :: l, hl, hf => by
  refine ⟨?_, fitL_of (by simpa using hl) fun i hi => ?_⟩
  ·have := hf 0 (by simp)
   rwa [hp_zero] at this
  ·have := hf (i + 1) (by simpa using hi)
   rw [hp_cons] at this
   simpa using this
def nodupN : List Nat → Bool
 | [] => true
 | j :: l => !memN j l && nodupN l
theorem nodupN_spec : ∀ {l : List Nat}, nodupN l = true → ∀ i j, i < j → j < l.length → l.getD i 0 ≠ l.getD j 0
 | [], _, i, j, _, hj => by simp at hj
 | k :: l, h, i, j, hij, hj => by
  simp only [nodupN, Bool.and_eq_true, Bool.not_eq_true'] at h
  obtain ⟨j, rfl⟩ : ∃ j', j = j' + 1 := ⟨j - 1, by omega⟩
  rw [List.getD_cons_succ]
  have hj' : j < l.length := by simpa using hj
  cases i with
  | zero =>
   rw [List.getD_cons_zero]
   intro e
   have : k ∈ l := by
    rw [e, List.getD_eq_getElem?_getD, List.getElem?_eq_getElem hj']
    exact List.getElem_mem hj'
   rw [memN_iff.2 this] at h
   cases h.1
  | succ i =>
   rw [List.getD_cons_succ]
   exact nodupN_spec h.2 i j (by omega) hj'
theorem nodupN_ne {l : List Nat} (h : nodupN l = true) {i j : Nat} (hi : i < l.length) (hj : j < l.length) (hne : i ≠ j) : l.getD i 0 ≠ l.getD j 0 := by
 rcases Nat.lt_or_gt_of_ne hne with h' | h'
 ·exact nodupN_spec h i j h' hj
 ·exact (nodupN_spec h j i h' hi).symm
theorem less_is_born {b c : HB} (h : Less b c) (hc : c.born = true) : b.born = true := by
 cases h with
 | same => exact hc
 | dead => cases hc
 | gone h => exact h
 | arr => rfl
 | loose => rfl
 | val => rfl
theorem bun1_born {ρ : Nat → Nat} {c b : HB} (h : Bun1 ρ c b) : c.born = true := by
 cases b with
 | own t u ex => exact less_is_born h rfl
 | ro u => exact Fit.born (ρ := ρ) (b := .ro u) h
 | gone => exact Fit.born (ρ := ρ) (b := .gone) h
 | raw o => exact h.elim
 | dead => exact Fit.born (ρ := ρ) (b := .dead) h
theorem bun_ok {f : FuncId} {args0 args : List SV} {L0 L1 : List HB} {v val : SV} {w0 w : World} {M : Nat → Prop} {β : Env} {h h' : HM} {m : Nat} {wr : List (Nat × HB)} (l : List Nat) (H : zo_ Try.prog f args0 L0 v L1) (R : Rep w0 M β h' w)
  (hlen : l.length = L0.length) (hpos : 0 < L0.length) (h00 : l.getD 0 0 = 0) (hz : hp L0 0 = .gone) (hnd : nodupN l = true) (hB : BunL (rhoL l m) h' L0 l)
  (hm : ∀ i, m ≤ i → h i = .dead) (hwr : ∀ p ∈ newB (rhoL l m) m (L1.drop L0.length), h' p.1 = h p.1) (hle : L0.length ≤ L1.length) (hno : noRo2 L0 L1 = true)
  (hst0 : y1_ (hp L0) L0) (hsta : ze_ (hp L0) args0) (hst1 : y1_ (hp (mrgL L0 L1)) (mrgL L0 L1)) (hv : zc_ (hp (mrgL L0 L1)) v)
  (hargs : renL (rhoL l m) args0 = args) (hval : v.ren (rhoL l m) = val) (hw : oldB (rhoL l m) L0 L1 l ++ newB (rhoL l m) m (L1.drop L0.length) = wr) :
  Calls Try.prog f (denL β args).toArray w fun e w' => ∃ β', (∀ i, (h' i).born = true → β i = β' i) ∧ Rep w0 M β' (wrs h' wr) w' ∧ zc_ (wrs h' wr) val ∧ e = .returned (val.den β') := by
 have hne : ∀ i j, i < L0.length → j < L0.length → i ≠ j → l.getD i 0 ≠ l.getD j 0 := fun i j hi hj hn => nodupN_ne hnd (by omega) (by omega) hn
 have hbun := bunL_get hB
 obtain ⟨H1, hH1⟩ : ∃ H1, H1 = wrs h' (oldB (rhoL l m) L0 L0 l) := ⟨_, rfl⟩
 have him : ∀ i, i < L0.length → (hp L0 i).mine = true → H1 (l.getD i 0) = (hp L0 i).ren (rhoL l m) := fun i hi hmi => by
  rw [hH1]
  exact wrs_oldB (Nat.le_refl _) hlen (fun a b hab hb _ _ => hne a b (by omega) hb (by omega)) i hi hmi
 have hneq : ∀ j, (∀ i, i < L0.length → (hp L0 i).mine = true → l.getD i 0 ≠ j) → H1 j = h' j := fun j hj => by
  rw [hH1]; exact wrs_oldB_ne hj
 have hrl : ∀ i, i < L0.length → rhoL l m i = l.getD i 0 := fun i hi => if_pos (by omega)
 have less1 : ∀ i, Less (h' i) (H1 i) := fun j => by
  by_cases hc : ∃ i, i < L0.length ∧ (hp L0 i).mine = true ∧ l.getD i 0 = j
  ·obtain ⟨i, hi, hmi, rfl⟩ := hc
   rw [him i hi hmi]
   have := hbun i hi
   cases hh : hp L0 i <;> rw [hh] at hmi this <;> first | (cases hmi; done) | exact this.elim | exact this
  ·rw [hneq j fun i hi hmi e => hc ⟨i, hi, hmi, e⟩]; exact .same _
 have born1 : ∀ i, (h' i).born = true → (H1 i).born = true := fun j hj => by
  by_cases hc : ∃ i, i < L0.length ∧ (hp L0 i).mine = true ∧ l.getD i 0 = j
  ·obtain ⟨i, hi, hmi, rfl⟩ := hc
   rw [him i hi hmi]
   cases hh : hp L0 i <;> rw [hh] at hmi <;> first | (cases hmi; done) | rfl
  ·rw [hneq j fun i hi hmi e => hc ⟨i, hi, hmi, e⟩]; exact hj
 have bornL : ∀ i, (hp L0 i).born = true → (H1 (rhoL l m i)).born = true := fun i hi => by
  have hlt : i < L0.length := by
   rcases Nat.lt_or_ge i L0.length with h' | h'
   ·exact h'
   ·rw [yw_ h'] at hi; cases hi
  rw [hrl i hlt]
  exact born1 _ (bun1_born (hbun i hlt))
 have H0 : H1 0 = .gone := by
  rw [hneq 0 fun i hi hmi e => ?_]
  ·exact R.nil0
  ·have : i = 0 := by
    by_cases hi0 : i = 0
    ·exact hi0
    ·exact absurd (e.trans h00.symm) (hne i 0 hi hpos hi0)
   subst this
   rw [hz] at hmi; cases hmi
 have R1 : Rep w0 M β H1 w := R.less less1 H0 fun j => by
  by_cases hc : ∃ i, i < L0.length ∧ (hp L0 i).mine = true ∧ l.getD i 0 = j
  ·obtain ⟨i, hi, hmi, rfl⟩ := hc
   rw [him i hi hmi]
   have hs := y7_ hst0 i
   have hb := hbun i hi
   cases hh : hp L0 i <;> rw [hh] at hmi hs hb <;> first | (cases hmi; done) | exact zc_.ren bornL hs | exact hb.elim
  ·rw [hneq j fun i hi hmi e => hc ⟨i, hi, hmi, e⟩]
   exact HB.stable_more (R.st j) born1
 have hfit : FitL (rhoL l m) H1 L0 l := fitL_of hlen fun i hi => by
  cases hh : hp L0 i with
  | own t u ex =>
   rw [him i hi (by rw [hh]; rfl), hh]
   exact .own
  | raw o => exact (by have hb := hbun i hi; rw [hh] at hb; exact hb.elim)
  | _ =>
   have hb := hbun i hi
   rw [hneq (l.getD i 0) fun k hk hmk e => by
    by_cases hki : k = i
    ·subst hki; rw [hh] at hmk; cases hmk
    ·exact hne k i hk hi hki e]
   rw [hh] at hb
   exact hb
 have hnew : ∀ p ∈ newB (rhoL l m) m (L1.drop L0.length), H1 p.1 = h p.1 := fun p hp => by
  have hge : m ≤ p.1 := by
   have : ∀ (L : List HB) (k : Nat), m ≤ k → p ∈ newB (rhoL l m) k L → m ≤ p.1 := by
    intro L
    induction L with
    | nil => intro k hk hp; cases hp
    | cons b L ih =>
     intro k hk hp
     cases hp with
     | head => exact hk
     | tail _ hp => exact ih (k + 1) (by omega) hp
   exact this _ m (Nat.le_refl _) hp
  rw [hneq p.1 fun i hi hmi e => ?_]
  ·exact hwr p hp
  ·have hb := bun1_born (hbun i hi)
   rw [e, hwr p hp, hm _ hge] at hb
   cases hb
 have C := callRW (h := h) (m := m) l H R1 hlen hpos h00 hz hfit (fun i j hi hj hn _ _ => hne i j hi hj hn) hm hnew hle hno hst0 hsta hst1 hv
 rw [hargs, hval, hw] at C
 have hww : wrs H1 wr = wrs h' wr := by
  rw [← hw, wrs_app, wrs_app]
  congr 1
  funext j
  by_cases hc : ∃ i, i < L0.length ∧ (hp L0 i).mine = true ∧ l.getD i 0 = j
  ·obtain ⟨i, hi, hmi, rfl⟩ := hc
   rw [wrs_oldB hle hlen (fun a b hab hb _ _ => hne a b (by omega) hb (by omega)) i hi hmi, wrs_oldB hle hlen (fun a b hab hb _ _ => hne a b (by omega) hb (by omega)) i hi hmi]
  ·rw [wrs_oldB_ne fun i hi hmi e => hc ⟨i, hi, hmi, e⟩, wrs_oldB_ne fun i hi hmi e => hc ⟨i, hi, hmi, e⟩]
   exact hneq j fun i hi hmi e => hc ⟨i, hi, hmi, e⟩
 rw [hww] at C
 exact C.mono fun e w' ⟨β', g1, g2, g3, g4⟩ => ⟨β', fun i hi => g1 i (born1 i hi), g2, g3, g4⟩
end Go.Proofs.Ytmljmabbopkpiaa.Vm
end

import Derived.Test.YtmljmabbopkpiaaM1
import Derived.Test.YtmljmabbopkpiaaM9
import Derived.Test.YtmljmabbopkpiaaM26
import Derived.Test.YtmljmabbopkpiaaM27
import Derived.Test.YtmljmabbopkpiaaM29
set_option linter.unusedSimpArgs false
set_option linter.unusedVariables false
set_option maxRecDepth 100000
set_option maxHeartbeats 4000000
section
namespace Go.Proofs.Ytmljmabbopkpiaa.Vm
open Go.RowKit
attribute [local push_cast] prS zm_ zo_ nav_ins xe_ xd_ xc_ xb_ xa_ nav_snd y9_ y8_ y7_ zu_ z7_ yf_ z5_ ya_ z9_ iOf
def beginR (a b c : Int) (j : Nat) : Int := match j with
 | 0 => a
 | 1 => b
 | 2 => c
 | _ => 0
theorem rbegin_lit (v tm_ src : Int) (cs : List Int) (p1 : Nat) (d : Int) (hm : cs.length ≤ 1000000) : zp_ Try.prog 70
  [.int .i64 v, .int .i64 tm_, .int .i64 src, .sl 1 2 [] 1 0 cs.length (some p1), .int .i64 d] [.gone, .gone, .ro (.arr cs.length 1 (zo_ cs))]
  (.agg [.nat .i64 0, .bool false, .arr 8 1 (fun j => .int .i64 (beginR v tm_ src j)), .sl 3 3 [] 1 0 cs.length none, .int .i64 d, .sl 0 0 [] 0 0 0 (some 0)])
  [.gone, .gone, .gone, .own 2 (.arr cs.length 1 (zo_ cs)) false] := by
 refine zf_ (fn := Try.f70) 3 27 0 rfl rfl rfl rfl rfl u2_ rfl fun w0 M E hro => ?_
 repeat' (first | refine Ctl.h ?_ | ((with_reducible intro hif); first | (focus (cases hif; done)) | ((try simp only [JH] at hif); try (exfalso; omega))) | ((with_reducible first | apply J22 cR18_ok za_ | apply J23 fol cR18_ok za_ | apply J24); (·rfl); (· (simp only [push_cast, ↓JP, Nat.reduceAdd, Nat.reduceEqDiff, Nat.reduceLT, Nat.reduceMul, Nat.reduceLeDiff, reduceCtorEq, reduceIte, ↓JK, inN, inR, eq_self, List.all_nil]; rfl)); (try kernel_rfl); (try (focus (first | exact True.intro | ((try simp only [JS, implies_true, forall_const, yc_, z6_, kndOf, inN, inR]); (repeat' (first | assumption | exact True.intro | omega | apply And.intro)); done))))) | fail)
 apply At.endsPick [0, 1, 2, 5] za_ (fn := Try.f70) (rs := [.cell 10 135]) Anc.refl hro (lb_ rfl) rfl
 ·exact yq_
 ·exact k14_
 ·rfl
 ·rfl
 ·rfl
 ·(repeat' (first | exact trivial | exact .inl rfl | exact .inr (.same _) | exact .inr .loose | exact .inr (.arr (by assumption)) | apply And.intro | exact .inr (.arr fun q hq => rfl)))
 ·rfl
 ·exact k6_
 ·exact k7_
 ·exact fun β => rfl
 ·exact k6_
def sRBegin : yp_ := fun args h m => match args with
 | [v1, v2, v3, v4, v5] => match y6_ h 1 (.tup []) v4 with
  | some (c4, n4, f4, r4) => bif isI .i64 v1 && isI .i64 v2 && isI .i64 v3 && isI .i64 v5 then some (c4 ∧ (∀ q, q < n4 → isI .i64 (f4 q) = true) ∧ (n4 ≤ 1000000), .agg [.nat .i64 0, .bool false, .arr 8 1 (fun j => .int .i64 (beginR (iOf v1) (iOf v2) (iOf v3) j)), .sl m m [] 1 0 (ls iOf n4 f4).length none, .int .i64 (iOf v5), .sl 0 0 [] 0 0 0 (some 0)], r4, [(m, .own 2 (.arr (ls iOf n4 f4).length 1 (zo_ (ls iOf n4 f4))) false)]) else none
  | _ => none
 | _ => none
theorem sRBegin_ok : zj_ Try.prog 70 sRBegin := by
 refine ⟨zi_ (by kernel_rfl), fun args h m c v rd wr hs hm hc w0 M β h' w R hrd hwr hst => ?_⟩
 unfold sRBegin at hs
 split at hs
 ·rename_i v1 v2 v3 v4 v5
  split at hs
  ·rename_i c4 n4 f4 r4 a4
   obtain ⟨hb, hs⟩ := zl_ hs
   simp only [Option.some.injEq, Prod.mk.injEq] at hs
   obtain ⟨rfl, rfl, rfl, rfl⟩ := hs
   simp only [Bool.and_eq_true] at hb
   obtain ⟨⟨⟨b1, b2⟩, b3⟩, b5⟩ := hb
   obtain ⟨k4, g4, y1⟩ := hc
   obtain ⟨A4, p4, d4, e4, t4⟩ := zg_ R a4 k4 (fun i hi => hrd i hi) (by omega)
   refine yl_ (views := [⟨1, (ls iOf n4 f4).length, zo_ (ls iOf n4 f4), A4, p4⟩]) (rbegin_lit (iOf v1) (iOf v2) (iOf v3) (ls iOf n4 f4) p4 (iOf v5) (by rw [zc_]; exact y1)) ?_ R hm hwr ?_ ?_ ?_
   ·intro x hx
    simp only [List.mem_cons, List.not_mem_nil, or_false] at hx
    subst hx
    ·exact yg_ t4 e4 g4
   ·intro β1 hv
    simp only [Vd, zc_, and_true] at hv
    have z4 := hv
    simp only [denL, z4_, z3_, yd_, zs_, zc_, z4, d4, zd_ b1, zd_ b2, zd_ b3, zd_ b5]
   ·exact k6_
   ·exact k6_
  ·cases hs
 ·cases hs
end Go.Proofs.Ytmljmabbopkpiaa.Vm
end
section
namespace Go.Proofs.Ytmljmabbopkpiaa.Vm
open Go.RowKit
attribute [local push_cast] prS zm_ zo_ nav_ins xe_ xd_ xc_ xb_ xa_ nav_snd y9_ y8_ y7_ zu_ z7_ yf_ z5_ ya_ z9_ iOf sRCheck ls_prS ls_prS' inR inN
theorem lsI_raw (p : List Ins) : ls zt_ p.length (fun q => yo_ (p.getD q ⟨0, 0, 0, 0, 0⟩)) = p := ls_prS p
def cRt : FuncId → Option yp_ := yy_ [(112, sRCheck)]
theorem cRt_ok : ∀ f S, cRt f = some S → zj_ Try.prog f S := zq_ ⟨sRCheck_ok, trivial⟩
theorem right18_lit (p : List Ins) (v : Evi) (s : Sta) (p1 p2 p3 : Nat) (hok : ∀ x ∈ p, x.ok) (hl : p.length ≤ 1000000) (hc : s.cells.length ≤ 1000000) : zp_ Try.prog 90 [.sl 1 2 [] 5 0 p.length (some p1), evS v, sr s (.sl 3 4 [] 1 0 s.cells.length (some p2)) (.sl 5 6 [] 3 0 s.sends.length (some p3))] [.gone, .gone, .ro (.arr p.length 5 (prS p)), .gone, .ro (.arr s.cells.length 1 (zo_ s.cells)), .gone, .ro (.arr s.sends.length 3 (zm_ s.sends))] (.int .i64 (y2_ p v s)) [.gone] := by
 simp only [evS, sr]
 by_cases h0 : (checkI p).2 = 0
 case neg =>
  rw [show y2_ p v s = 180 by rw [y2_, if_pos h0]]
  refine zf_ (fn := Try.f90) 7 70 0 rfl rfl rfl rfl rfl u11_ rfl fun w0 M E hro => ?_
  repeat' (first | refine Ctl.h ?_ | ((with_reducible intro hif); first | (focus (cases hif; done)) | ((try simp only [JH] at hif); try (exfalso; omega))) | ((with_reducible first | apply J22 cRt_ok za_ | apply J23 fol cRt_ok za_ | apply J24); (·rfl); (· (simp only [push_cast, ↓JP, Nat.reduceAdd, Nat.reduceEqDiff, Nat.reduceLT, Nat.reduceMul, Nat.reduceLeDiff, reduceCtorEq, reduceIte, ↓JK, cRt, lsI_raw, Int.cast_ofNat_Int, h0]; rfl)); (try kernel_rfl); try exact k98_) | fail)
  apply At.endsRet za_ (fn := Try.f90) (rs := [.tmp 6]) Anc.refl hro (lb_ rfl) rfl
  ·exact yq_
  ·exact k4_
  ·exact k5_
  ·rfl
  ·exact k97_
  ·exact k7_
  ·exact fun β => rfl
  ·exact k97_
 by_cases h1 : v.process < 0
 case pos =>
  rw [show y2_ p v s = 181 by rw [y2_, if_neg (by simp [h0]), if_pos u12_]]
  refine zf_ (fn := Try.f90) 7 70 0 rfl rfl rfl rfl rfl u11_ rfl fun w0 M E hro => ?_
  repeat' (first | refine Ctl.h ?_ | ((with_reducible intro hif); first | (focus (cases hif; done)) | ((try simp only [JH] at hif); try (exfalso; omega))) | ((with_reducible first | apply J22 cRt_ok za_ | apply J23 fol cRt_ok za_ | apply J24); (·rfl); (· (simp only [push_cast, ↓JP, Nat.reduceAdd, Nat.reduceEqDiff, Nat.reduceLT, Nat.reduceMul, Nat.reduceLeDiff, reduceCtorEq, reduceIte, ↓JK, cRt, lsI_raw, Int.cast_ofNat_Int, (eq_true h0), h1]; rfl)); (try kernel_rfl); try exact k98_) | fail)
  apply At.endsRet za_ (fn := Try.f90) (rs := [.tmp 6]) Anc.refl hro (lb_ rfl) rfl
  ·exact yq_
  ·exact k4_
  ·exact k5_
  ·rfl
  ·exact k97_
  ·exact k7_
  ·exact fun β => rfl
  ·exact k97_
 by_cases h2 : 65536 < v.process
 case pos =>
  rw [show y2_ p v s = 181 by rw [y2_, if_neg (by simp [h0]), if_pos u12_]]
  refine zf_ (fn := Try.f90) 7 70 0 rfl rfl rfl rfl rfl u11_ rfl fun w0 M E hro => ?_
  repeat' (first | refine Ctl.h ?_ | ((with_reducible intro hif); first | (focus (cases hif; done)) | ((try simp only [JH] at hif); try (exfalso; omega))) | ((with_reducible first | apply J22 cRt_ok za_ | apply J23 fol cRt_ok za_ | apply J24); (·rfl); (· (simp only [push_cast, ↓JP, Nat.reduceAdd, Nat.reduceEqDiff, Nat.reduceLT, Nat.reduceMul, Nat.reduceLeDiff, reduceCtorEq, reduceIte, ↓JK, cRt, lsI_raw, Int.cast_ofNat_Int, (eq_true h0), h1, h2]; rfl)); (try kernel_rfl); try exact k98_) | fail)
  apply At.endsRet za_ (fn := Try.f90) (rs := [.tmp 6]) Anc.refl hro (lb_ rfl) rfl
  ·exact yq_
  ·exact k4_
  ·exact k5_
  ·rfl
  ·exact k97_
  ·exact k7_
  ·exact fun β => rfl
  ·exact k97_
 by_cases h3 : v.ports < 0
 case pos =>
  rw [show y2_ p v s = 181 by rw [y2_, if_neg (by simp [h0]), if_pos u12_]]
  refine zf_ (fn := Try.f90) 7 70 0 rfl rfl rfl rfl rfl u11_ rfl fun w0 M E hro => ?_
  repeat' (first | refine Ctl.h ?_ | ((with_reducible intro hif); first | (focus (cases hif; done)) | ((try simp only [JH] at hif); try (exfalso; omega))) | ((with_reducible first | apply J22 cRt_ok za_ | apply J23 fol cRt_ok za_ | apply J24); (·rfl); (· (simp only [push_cast, ↓JP, Nat.reduceAdd, Nat.reduceEqDiff, Nat.reduceLT, Nat.reduceMul, Nat.reduceLeDiff, reduceCtorEq, reduceIte, ↓JK, cRt, lsI_raw, Int.cast_ofNat_Int, (eq_true h0), h1, h2, h3]; rfl)); (try kernel_rfl); try exact k98_) | fail)
  apply At.endsRet za_ (fn := Try.f90) (rs := [.tmp 6]) Anc.refl hro (lb_ rfl) rfl
  ·exact yq_
  ·exact k4_
  ·exact k5_
  ·rfl
  ·exact k97_
  ·exact k7_
  ·exact fun β => rfl
  ·exact k97_
 by_cases h4 : v.look ≤ 0
 case pos =>
  rw [show y2_ p v s = 181 by rw [y2_, if_neg (by simp [h0]), if_pos u12_]]
  refine zf_ (fn := Try.f90) 7 70 0 rfl rfl rfl rfl rfl u11_ rfl fun w0 M E hro => ?_
  repeat' (first | refine Ctl.h ?_ | ((with_reducible intro hif); first | (focus (cases hif; done)) | ((try simp only [JH] at hif); try (exfalso; omega))) | ((with_reducible first | apply J22 cRt_ok za_ | apply J23 fol cRt_ok za_ | apply J24); (·rfl); (· (simp only [push_cast, ↓JP, Nat.reduceAdd, Nat.reduceEqDiff, Nat.reduceLT, Nat.reduceMul, Nat.reduceLeDiff, reduceCtorEq, reduceIte, ↓JK, cRt, lsI_raw, Int.cast_ofNat_Int, (eq_true h0), h1, h2, h3, h4]; rfl)); (try kernel_rfl); try exact k98_) | fail)
  apply At.endsRet za_ (fn := Try.f90) (rs := [.tmp 6]) Anc.refl hro (lb_ rfl) rfl
  ·exact yq_
  ·exact k4_
  ·exact k5_
  ·rfl
  ·exact k97_
  ·exact k7_
  ·exact fun β => rfl
  ·exact k97_
 by_cases h5 : v.now < 0
 case pos =>
  rw [show y2_ p v s = 181 by rw [y2_, if_neg (by simp [h0]), if_pos u12_]]
  refine zf_ (fn := Try.f90) 7 70 0 rfl rfl rfl rfl rfl u11_ rfl fun w0 M E hro => ?_
  repeat' (first | refine Ctl.h ?_ | ((with_reducible intro hif); first | (focus (cases hif; done)) | ((try simp only [JH] at hif); try (exfalso; omega))) | ((with_reducible first | apply J22 cRt_ok za_ | apply J23 fol cRt_ok za_ | apply J24); (·rfl); (· (simp only [push_cast, ↓JP, Nat.reduceAdd, Nat.reduceEqDiff, Nat.reduceLT, Nat.reduceMul, Nat.reduceLeDiff, reduceCtorEq, reduceIte, ↓JK, cRt, lsI_raw, Int.cast_ofNat_Int, (eq_true h0), h1, h2, h3, h4, h5]; rfl)); (try kernel_rfl); try exact k98_) | fail)
  apply At.endsRet za_ (fn := Try.f90) (rs := [.tmp 6]) Anc.refl hro (lb_ rfl) rfl
  ·exact yq_
  ·exact k4_
  ·exact k5_
  ·rfl
  ·exact k97_
  ·exact k7_
  ·exact fun β => rfl
  ·exact k97_
 by_cases h6 : 281474976710656 < v.now
 case pos =>
  rw [show y2_ p v s = 181 by rw [y2_, if_neg (by simp [h0]), if_pos u12_]]
  refine zf_ (fn := Try.f90) 7 70 0 rfl rfl rfl rfl rfl u11_ rfl fun w0 M E hro => ?_
  repeat' (first | refine Ctl.h ?_ | ((with_reducible intro hif); first | (focus (cases hif; done)) | ((try simp only [JH] at hif); try (exfalso; omega))) | ((with_reducible first | apply J22 cRt_ok za_ | apply J23 fol cRt_ok za_ | apply J24); (·rfl); (· (simp only [push_cast, ↓JP, Nat.reduceAdd, Nat.reduceEqDiff, Nat.reduceLT, Nat.reduceMul, Nat.reduceLeDiff, reduceCtorEq, reduceIte, ↓JK, cRt, lsI_raw, Int.cast_ofNat_Int, (eq_true h0), h1, h2, h3, h4, h5, h6]; rfl)); (try kernel_rfl); try exact k98_) | fail)
  apply At.endsRet za_ (fn := Try.f90) (rs := [.tmp 6]) Anc.refl hro (lb_ rfl) rfl
  ·exact yq_
  ·exact k4_
  ·exact k5_
  ·rfl
  ·exact k97_
  ·exact k7_
  ·exact fun β => rfl
  ·exact k97_
 by_cases h7 : s.at_ < 0
 case pos =>
  rw [show y2_ p v s = 182 by rw [y2_, if_neg (by simp [h0]), if_neg u13_, if_pos u14_]]
  refine zf_ (fn := Try.f90) 7 70 0 rfl rfl rfl rfl rfl u11_ rfl fun w0 M E hro => ?_
  repeat' (first | refine Ctl.h ?_ | ((with_reducible intro hif); first | (focus (cases hif; done)) | ((try simp only [JH] at hif); try (exfalso; omega))) | ((with_reducible first | apply J22 cRt_ok za_ | apply J23 fol cRt_ok za_ | apply J24); (·rfl); (· (simp only [push_cast, ↓JP, Nat.reduceAdd, Nat.reduceEqDiff, Nat.reduceLT, Nat.reduceMul, Nat.reduceLeDiff, reduceCtorEq, reduceIte, ↓JK, cRt, lsI_raw, Int.cast_ofNat_Int, (eq_true h0), h1, h2, h3, h4, h5, h6, h7]; rfl)); (try kernel_rfl); try exact k98_) | fail)
  apply At.endsRet za_ (fn := Try.f90) (rs := [.tmp 6]) Anc.refl hro (lb_ rfl) rfl
  ·exact yq_
  ·exact k4_
  ·exact k5_
  ·rfl
  ·exact k97_
  ·exact k7_
  ·exact fun β => rfl
  ·exact k97_
 by_cases h8 : (p.length : Int) ≤ s.at_
 case pos =>
  rw [show y2_ p v s = 182 by rw [y2_, if_neg (by simp [h0]), if_neg u13_, if_pos u14_]]
  refine zf_ (fn := Try.f90) 7 70 0 rfl rfl rfl rfl rfl u11_ rfl fun w0 M E hro => ?_
  repeat' (first | refine Ctl.h ?_ | ((with_reducible intro hif); first | (focus (cases hif; done)) | ((try simp only [JH] at hif); try (exfalso; omega))) | ((with_reducible first | apply J22 cRt_ok za_ | apply J23 fol cRt_ok za_ | apply J24); (·rfl); (· (simp only [push_cast, ↓JP, Nat.reduceAdd, Nat.reduceEqDiff, Nat.reduceLT, Nat.reduceMul, Nat.reduceLeDiff, reduceCtorEq, reduceIte, ↓JK, cRt, lsI_raw, Int.cast_ofNat_Int, (eq_true h0), h1, h2, h3, h4, h5, h6, h7, h8]; rfl)); (try kernel_rfl); try exact k98_) | fail)
  apply At.endsRet za_ (fn := Try.f90) (rs := [.tmp 6]) Anc.refl hro (lb_ rfl) rfl
  ·exact yq_
  ·exact k4_
  ·exact k5_
  ·rfl
  ·exact k97_
  ·exact k7_
  ·exact fun β => rfl
  ·exact k97_
 by_cases h9 : 1024 < s.cells.length
 case pos =>
  rw [show y2_ p v s = 182 by rw [y2_, if_neg (by simp [h0]), if_neg u13_, if_pos u14_]]
  refine zf_ (fn := Try.f90) 7 70 0 rfl rfl rfl rfl rfl u11_ rfl fun w0 M E hro => ?_
  repeat' (first | refine Ctl.h ?_ | ((with_reducible intro hif); first | (focus (cases hif; done)) | ((try simp only [JH] at hif); try (exfalso; omega))) | ((with_reducible first | apply J22 cRt_ok za_ | apply J23 fol cRt_ok za_ | apply J24); (·rfl); (· (simp only [push_cast, ↓JP, Nat.reduceAdd, Nat.reduceEqDiff, Nat.reduceLT, Nat.reduceMul, Nat.reduceLeDiff, reduceCtorEq, reduceIte, ↓JK, cRt, lsI_raw, Int.cast_ofNat_Int, (eq_true h0), h1, h2, h3, h4, h5, h6, h7, h8, h9]; rfl)); (try kernel_rfl); try exact k98_) | fail)
  apply At.endsRet za_ (fn := Try.f90) (rs := [.tmp 6]) Anc.refl hro (lb_ rfl) rfl
  ·exact yq_
  ·exact k4_
  ·exact k5_
  ·rfl
  ·exact k97_
  ·exact k7_
  ·exact fun β => rfl
  ·exact k97_
 by_cases h10 : s.draws < 0
 case pos =>
  rw [show y2_ p v s = 182 by rw [y2_, if_neg (by simp [h0]), if_neg u13_, if_pos u14_]]
  refine zf_ (fn := Try.f90) 7 70 0 rfl rfl rfl rfl rfl u11_ rfl fun w0 M E hro => ?_
  repeat' (first | refine Ctl.h ?_ | ((with_reducible intro hif); first | (focus (cases hif; done)) | ((try simp only [JH] at hif); try (exfalso; omega))) | ((with_reducible first | apply J22 cRt_ok za_ | apply J23 fol cRt_ok za_ | apply J24); (·rfl); (· (simp only [push_cast, ↓JP, Nat.reduceAdd, Nat.reduceEqDiff, Nat.reduceLT, Nat.reduceMul, Nat.reduceLeDiff, reduceCtorEq, reduceIte, ↓JK, cRt, lsI_raw, Int.cast_ofNat_Int, (eq_true h0), h1, h2, h3, h4, h5, h6, h7, h8, h9, h10]; rfl)); (try kernel_rfl); try exact k98_) | fail)
  apply At.endsRet za_ (fn := Try.f90) (rs := [.tmp 6]) Anc.refl hro (lb_ rfl) rfl
  ·exact yq_
  ·exact k4_
  ·exact k5_
  ·rfl
  ·exact k97_
  ·exact k7_
  ·exact fun β => rfl
  ·exact k97_
 by_cases h11 : 1099511627776 < s.draws
 case pos =>
  rw [show y2_ p v s = 182 by rw [y2_, if_neg (by simp [h0]), if_neg u13_, if_pos u14_]]
  refine zf_ (fn := Try.f90) 7 70 0 rfl rfl rfl rfl rfl u11_ rfl fun w0 M E hro => ?_
  repeat' (first | refine Ctl.h ?_ | ((with_reducible intro hif); first | (focus (cases hif; done)) | ((try simp only [JH] at hif); try (exfalso; omega))) | ((with_reducible first | apply J22 cRt_ok za_ | apply J23 fol cRt_ok za_ | apply J24); (·rfl); (· exact k99_); (try kernel_rfl); try exact k98_) | fail)
  apply At.endsRet za_ (fn := Try.f90) (rs := [.tmp 6]) Anc.refl hro (lb_ rfl) rfl
  ·exact yq_
  ·exact k4_
  ·exact k5_
  ·rfl
  ·exact k97_
  ·exact k7_
  ·exact fun β => rfl
  ·exact k97_
 rw [show y2_ p v s = 0 by rw [y2_, if_neg (by simp [h0]), if_neg u13_, if_neg (by rw [Sta.rightB, decide_eq_true (by omega)]; decide)]]
 refine zf_ (fn := Try.f90) 7 70 0 rfl rfl rfl rfl rfl u11_ rfl fun w0 M E hro => ?_
 repeat' (first | refine Ctl.h ?_ | ((with_reducible intro hif); first | (focus (cases hif; done)) | ((try simp only [JH] at hif); try (exfalso; omega))) | ((with_reducible first | apply J22 cRt_ok za_ | apply J23 fol cRt_ok za_ | apply J24); (·rfl); (· exact k99_); (try kernel_rfl); try exact k98_) | fail)
 apply At.endsRet za_ (fn := Try.f90) (rs := [.tmp 6]) Anc.refl hro (lb_ rfl) rfl
 ·exact yq_
 ·exact k4_
 ·exact k5_
 ·rfl
 ·exact k97_
 ·exact k7_
 ·exact fun β => rfl
 ·exact k97_
end Go.Proofs.Ytmljmabbopkpiaa.Vm
end
section
namespace Go.Proofs.Ytmljmabbopkpiaa.Vm
open Go.RowKit
def sRt18 : yp_ := fun args h m => match args with
 | [v1, .agg [v2, v3, v4, v5, v6], .agg [v7, .bool v8, .arr 8 1 v9, v10, v11, v12]] => match y6_ h 5 (.tup []) v1, y6_ h 1 (.tup []) v10, y6_ h 3 (.tup []) v12 with
  | some (c1, n1, f1, r1), some (c10, n10, f10, r10), some (c12, n12, f12, r12) => bif isI .u64 v2 && isI .i64 v3 && isI .i64 v4 && isI .i64 v5 && isI .i64 v6 && isI .i64 v7 && isI .i64 v11 then some (c1 ∧ c10 ∧ c12 ∧ (∀ q, q < n1 → isIns (f1 q) = true) ∧ (∀ q, q < n10 → isI .i64 (f10 q) = true) ∧ (∀ q, q < n12 → isSnd (f12 q) = true) ∧ (∀ q, q < 8 → isI .i64 (v9 q) = true) ∧ ((∀ x ∈ (ls zt_ n1 f1), x.ok)) ∧ (n1 ≤ 1000000) ∧ (n10 ≤ 1000000), .int .i64 (y2_ (ls zt_ n1 f1) ⟨(iOf v2), (iOf v3), (iOf v4), (iOf v5), (iOf v6)⟩ ⟨(iOf v7), v8, (fun q => iOf (v9 q)), (ls iOf n10 f10), (iOf v11), (ls zn_ n12 f12)⟩), r1 ++ r10 ++ r12, []) else none
  | _, _, _ => none
 | _ => none
theorem sRt18_ok : zj_ Try.prog 90 sRt18 := by
 refine ⟨zi_ (by kernel_rfl), fun args h m c v rd wr hs hm hc w0 M β h' w R hrd hwr hst => ?_⟩
 unfold sRt18 at hs
 split at hs
 ·rename_i v1 v2 v3 v4 v5 v6 v7 v8 v9 v10 v11 v12
  split at hs
  ·rename_i c1 n1 f1 r1 c10 n10 f10 r10 c12 n12 f12 r12 a1 a10 a12
   obtain ⟨hb, hs⟩ := zl_ hs
   simp only [Option.some.injEq, Prod.mk.injEq] at hs
   obtain ⟨rfl, rfl, rfl, rfl⟩ := hs
   simp only [Bool.and_eq_true] at hb
   obtain ⟨⟨⟨⟨⟨⟨b2, b3⟩, b4⟩, b5⟩, b6⟩, b7⟩, b11⟩ := hb
   obtain ⟨k1, k10, k12, g1, g10, g12, g9, y1, y2, y3⟩ := hc
   obtain ⟨A1, p1, d1, e1, t1⟩ := zg_ R a1 k1 (fun i hi => hrd i (List.mem_append_left _ (List.mem_append_left _ hi))) (by omega)
   obtain ⟨A10, p10, d10, e10, t10⟩ := zg_ R a10 k10 (fun i hi => hrd i (List.mem_append_left _ (List.mem_append_right _ hi))) (by omega)
   obtain ⟨A12, p12, d12, e12, t12⟩ := zg_ R a12 k12 (fun i hi => hrd i (List.mem_append_right _ hi)) (by omega)
   refine yl_ (views := [⟨5, (ls zt_ n1 f1).length, prS (ls zt_ n1 f1), A1, p1⟩, ⟨1, (ls iOf n10 f10).length, zo_ (ls iOf n10 f10), A10, p10⟩, ⟨3, (ls zn_ n12 f12).length, zm_ (ls zn_ n12 f12), A12, p12⟩]) (right18_lit (ls zt_ n1 f1) ⟨(iOf v2), (iOf v3), (iOf v4), (iOf v5), (iOf v6)⟩ ⟨(iOf v7), v8, (fun q => iOf (v9 q)), (ls iOf n10 f10), (iOf v11), (ls zn_ n12 f12)⟩ p1 p10 p12 y1 (by rw [zc_]; exact y2) u15_) ?_ R hm hwr ?_ ?_ ?_
   ·exact d38_
   ·exact d44_
   ·exact k59_
   ·exact k59_
  ·cases hs
 ·cases hs
def runB (P : List Ins) (v : Evi) : Nat → Sta → Bool → Bool → Bool × Bool
 | 0, _, c, d => (c, d)
 | n + 1, s, c, d => if s.ended = true then (c, d) else
  if stepE P v s = 0 then runB P v n (yw_ P v s) (c || decide ((insAt P s.at_).op = 6)) (d || decide ((insAt P s.at_).op = 8)) else (c, d)
theorem runB_go {P : List Ins} {v : Evi} {n : Nat} {s : Sta} {c d : Bool} (h : s.ended = false) (hn : 0 < n) (he : stepE P v s = 0) : runB P v n s c d = runB P v (n - 1) (yw_ P v s) (c || decide ((insAt P s.at_).op = 6)) (d || decide ((insAt P s.at_).op = 8)) := by
 obtain ⟨n, rfl⟩ : ∃ k, n = k + 1 := ⟨n - 1, by omega⟩
 simp [runB, h, he]
structure FG (P : List Ins) (s : Sta) : Prop where
 sg : SG P s
 rg : ∀ q, R64 (s.regs q)
 cr : CR s
 sd : s.sends.length ≤ 256
theorem FG.ook {P : List Ins} {v : Evi} {s : Sta} (h : FG P s) (hP : PG P) (V : VOk v) : OOk s v (insAt P s.at_) := by
 have R := h.sg.ri hP
 have ⟨o0, o1, a0, a1, b0, b1, c0, c1, n0, n1⟩ := R.ok
 exact ⟨R, V, h.sg.sok hP, h.rg, n0, n1, by have := h.sd; omega⟩
theorem doS_sends {s : Sta} {v : Evi} {x : Ins} (h : s.sends.length ≤ 256) : (doS s v x).sends.length ≤ 256 := by
 by_cases hE : doE s v x = 0
 ·by_cases h8 : x.op = 8
  ·have hl : s.sends.length < 256 := by
    rcases Nat.lt_or_ge s.sends.length 256 with h' | h'
    ·exact h'
    ·exfalso
     have h3 : doE s v x = sendE s v x := by simp [doE, h8]
     unfold sendE at h3
     rw [hE, if_pos h'] at h3
     split at h3
     ·omega
     ·split at h3
      ·omega
      ·split at h3 <;> omega
   have e : doS s v x = { s with at_ := s.at_ + 1, sends := s.sends ++ [⟨x.n, s.regs x.a.toNat, s.regs x.b.toNat⟩] } := by simp [doS, hE, h8]
   rw [e]
   simp only [List.length_append, List.length_cons, List.length_nil]
   omega
  ·have e : (doS s v x).sends = s.sends := by
    unfold doS
    simp only [apply_ite Sta.sends, if_neg h8, Sta.put, ite_self]
   rw [e]; exact h
 ·rw [doS_bad hE]; exact h
theorem doS_cells6 {s : Sta} {v : Evi} {x : Ins} (h : x.op ≠ 6) : (doS s v x).cells = s.cells := by
 unfold doS
 simp only [apply_ite Sta.cells, if_neg h, Sta.put, ite_self]
theorem doS_sends8 {s : Sta} {v : Evi} {x : Ins} (h : x.op ≠ 8) : (doS s v x).sends = s.sends := by
 unfold doS
 simp only [apply_ite Sta.sends, if_neg h, Sta.put, ite_self]
theorem doS_clen (s : Sta) (v : Evi) (x : Ins) : (doS s v x).cells.length = s.cells.length := by
 unfold doS
 simp only [apply_ite Sta.cells, apply_ite List.length, Sta.put, List.length_set, ite_self]
theorem doS_slen {s : Sta} {v : Evi} {x : Ins} (hE : doE s v x = 0) (h : x.op = 8) : (doS s v x).sends.length = s.sends.length + 1 := by
 have e : doS s v x = { s with at_ := s.at_ + 1, sends := s.sends ++ [⟨x.n, s.regs x.a.toNat, s.regs x.b.toNat⟩] } := by simp [doS, hE, h]
 rw [e]
 simp only [List.length_append, List.length_cons, List.length_nil]
theorem FG.step {P : List Ins} {v : Evi} {s : Sta} (h : FG P s) (hP : PG P) (V : VOk v) (he : s.ended = false) : FG P (yw_ P v s) := by
 have K := h.ook hP V
 have e : yw_ P v s = doS s v (insAt P s.at_) := by unfold yw_; rw [if_neg (by rw [he]; exact Bool.noConfusion)]
 rw [e]
 have hR := doS_R K h.cr
 exact ⟨doS_good h.sg hP, hR.1, hR.2, doS_sends h.sd⟩
structure FS where
 k : Nat
 s : Sta
 x : Ins
 tr : List Int
 a : Int
 fc : Bool
 fs : Bool
 nc : Nat
 ns : Nat
def FS.st (z : FS) : List Snd := bif z.fs then z.s.sends else []
structure FInv (P : List Ins) (v : Evi) (f : Nat) (s0 : Sta) (R : RR) (B : Bool × Bool) (z : FS) : Prop where
 hk : z.k ≤ f
 hg : FG P z.s
 hl : z.tr.length = z.k
 hr : runA P v (f - z.k) z.s z.x z.tr z.a = R
 hb : runB P v (f - z.k) z.s z.fc z.fs = B
 hc : z.s.cells.length = z.nc
 hs : z.s.sends.length = z.ns
 hc2 : z.fc = false → z.s.cells = s0.cells
 hs2 : z.fs = false → z.s.sends = s0.sends
theorem stepS_of {P : List Ins} {v : Evi} {s : Sta} (he : s.ended = false) : yw_ P v s = doS s v (insAt P s.at_) := by unfold yw_; rw [if_neg (by rw [he]; exact Bool.noConfusion)]
theorem stepE_of {P : List Ins} {v : Evi} {s : Sta} (he : s.ended = false) : stepE P v s = doE s v (insAt P s.at_) := by unfold stepE; rw [if_neg (by rw [he]; exact Bool.noConfusion)]
theorem FInv.step {P : List Ins} {v : Evi} {f : Nat} {s0 : Sta} {R : RR} {B : Bool × Bool} {z : FS} (H : FInv P v f s0 R B z) (hP : PG P) (V : VOk v) (he : z.s.ended = false) (hkf : z.k < f) (x : Ins) (hx : insAt P z.s.at_ = x) (h : doE z.s v x = 0) (c d : Bool) (m : Nat)
  (hc : c = (z.fc || decide (x.op = 6))) (hd : d = (z.fs || decide (x.op = 8))) (hm : (doS z.s v x).sends.length = m) : FInv P v f s0 R B ⟨z.k + 1, doS z.s v x, stepX P z.s z.x, z.tr ++ [z.s.at_], z.s.at_, c, d, z.nc, m⟩ := by
 subst hx
 have e := stepS_of (P := P) (v := v) he
 have h' : stepE P v z.s = 0 := by rw [stepE_of he]; exact h
 refine ⟨hkf, ?_, by simp [H.hl], ?_, ?_, ?_, hm, fun hf => ?_, fun hf => ?_⟩
 ·have := H.hg.step hP V he; rwa [e] at this
 ·have := H.hr; rw [runA_go he (by omega) h', e] at this
  exact this
 ·have := H.hb; rw [runB_go he (by omega) h', e, ← hc, ← hd] at this
  exact this
 ·exact (doS_clen _ _ _).trans H.hc
 ·dsimp only at hf ⊢
  rw [hf] at hc
  have hc := hc.symm
  simp only [Bool.or_eq_false_iff, decide_eq_false_iff_not] at hc
  rw [doS_cells6 hc.2]; exact H.hc2 hc.1
 ·dsimp only at hf ⊢
  rw [hf] at hd
  have hd := hd.symm
  simp only [Bool.or_eq_false_iff, decide_eq_false_iff_not] at hd
  rw [doS_sends8 hd.2]; exact H.hs2 hd.1
def cRf (l : List Int) : HB := .own 2 (.arr l.length 1 (zo_ l)) false
def sRf (l : List Snd) : HB := .own 200 (.arr l.length 3 (zm_ l)) false
theorem eqIns_lit (xs ys : List Ins) (p1 p2 : Nat) (hx : xs.length ≤ 281474976710656) : zp_ Try.prog 71 [.sl 1 2 [] 5 0 xs.length (some p1), .sl 3 4 [] 5 0 ys.length (some p2)] [.gone, .gone, .ro (.arr xs.length 5 (prS xs)), .gone, .ro (.arr ys.length 5 (prS ys))] (.bool (eqL xs ys)) [.gone] := by
 refine zf_ (fn := Try.f71) 5 26 0 rfl rfl rfl rfl rfl u2_ rfl fun w0 M E hro => ?_
 repeat' (first | refine Ctl.h ?_ | ((with_reducible intro hif); first | (focus (cases hif; done)) | ((try simp only [JH] at hif); try (exfalso; omega))) | ((with_reducible first | apply J22 zx_ za_ | apply J23 fol zx_ za_ | apply J24); (·rfl); (· exact k16_); (try kernel_rfl); try exact xi_) | fail)
 ·have hne : xs ≠ ys := fun e => hif (by rw [e])
  apply At.endsRet za_ (fn := Try.f71) (rs := [.tmp 4]) Anc.refl hro (lb_ rfl) rfl
  ·exact k3_
  ·exact k4_
  ·exact k5_
  ·rfl
  ·exact k6_
  ·exact k7_
  ·rw [eqL_false hne]; exact fun β => rfl
  ·exact k6_
 ·refine WF.loopAt (fun j => j ≤ xs.length ∧ ∀ q, q < j → xs.getD q ⟨0, 0, 0, 0, 0⟩ = ys.getD q ⟨0, 0, 0, 0, 0⟩) (fun j => [(0, .sl 1 2 [] 5 0 xs.length (some p1)), (1, .sl 3 4 [] 5 0 ys.length (some p2)), (12, .nat .i64 xs.length), (13, .nat .i64 j)]) (fun j => [.gone, .gone, .ro (.arr xs.length 5 (prS xs)), .gone, .ro (.arr ys.length 5 (prS ys))]) (fun j => xs.length - j) 0 ⟨Nat.zero_le _, fun q hq => absurd hq (Nat.not_lt_zero q)⟩ ?_ ?_ rfl ?_ ?_ rfl ?_
  ·exact k8_
  ·exact k5_
  ·exact k6_
  ·exact k6_
  have hlen := hif
  rintro j ⟨hj, heq⟩
  repeat' (first | refine Ctl.h ?_ | ((with_reducible intro hif); first | (focus (cases hif; done)) | ((try simp only [JH] at hif); try (exfalso; omega))) | ((with_reducible first | apply J22 zx_ za_ | apply J23 fol zx_ za_ | apply J24); (·rfl); (· (simp only [push_cast, ↓JP, Nat.reduceAdd, Nat.reduceEqDiff, Nat.reduceLT, Nat.reduceMul, Nat.reduceLeDiff, reduceCtorEq, reduceIte, prS, yo_, inN]; rfl)); (try kernel_rfl); try exact k17_) | fail)
  ·have hne : xs ≠ ys := by rintro rfl; simp at hif
   apply At.endsRet za_ (fn := Try.f71) (rs := [.tmp 4]) Anc.refl hro (lb_ rfl) rfl
   ·exact k3_
   ·exact k4_
   ·exact k5_
   ·rfl
   ·exact k6_
   ·exact k7_
   ·rw [eqL_false hne]; exact fun β => rfl
   ·exact k6_
  ·have hq : xs.getD j ⟨0, 0, 0, 0, 0⟩ = ys.getD j ⟨0, 0, 0, 0, 0⟩ := ins_ext (of_decide_eq_true hif.1) (of_decide_eq_true hif.2.1) (of_decide_eq_true hif.2.2.1) (of_decide_eq_true hif.2.2.2.1) (of_decide_eq_true hif.2.2.2.2)
   refine At.next (j + 1) ?_ ?_ ?_ rfl ?_ ?_ rfl
   ·exact k9_
   ·exact k8_
   ·exact k5_
   ·exact k6_
   ·exact k6_
  ·have hjn : j = xs.length := by omega
   subst hjn
   have he : xs = ys := ext_getD ⟨0, 0, 0, 0, 0⟩ hlen heq
   apply At.endsRet za_ (fn := Try.f71) (rs := [.tmp 4]) Anc.refl hro (lb_ rfl) rfl
   ·exact k3_
   ·exact k4_
   ·exact k5_
   ·rfl
   ·exact k6_
   ·exact k7_
   ·rw [eqL_true he]; exact fun β => rfl
   ·exact k6_
def sEqIns : yp_ := fun args h m => match args with
 | [v1, v2] => match y6_ h 5 (.tup []) v1, y6_ h 5 (.tup []) v2 with
  | some (c1, n1, f1, r1), some (c2, n2, f2, r2) => some (c1 ∧ c2 ∧ (∀ q, q < n1 → isIns (f1 q) = true) ∧ (∀ q, q < n2 → isIns (f2 q) = true) ∧ ((ls zt_ n1 f1).length ≤ 281474976710656), .bool (eqL (ls zt_ n1 f1) (ls zt_ n2 f2)), r1 ++ r2, [])
  | _, _ => none
 | _ => none
theorem sEqIns_ok : zj_ Try.prog 71 sEqIns := by
 refine ⟨zi_ (by kernel_rfl), fun args h m c v rd wr hs hm hc w0 M β h' w R hrd hwr hst => ?_⟩
 unfold sEqIns at hs
 split at hs
 ·rename_i v1 v2
  split at hs
  ·rename_i c1 n1 f1 r1 c2 n2 f2 r2 a1 a2
   simp only [Option.some.injEq, Prod.mk.injEq] at hs
   obtain ⟨rfl, rfl, rfl, rfl⟩ := hs
   obtain ⟨k1, k2, g1, g2, y1⟩ := hc
   obtain ⟨A1, p1, d1, e1, t1⟩ := zg_ R a1 k1 (fun i hi => hrd i (List.mem_append_left _ hi)) (by omega)
   obtain ⟨A2, p2, d2, e2, t2⟩ := zg_ R a2 k2 (fun i hi => hrd i (List.mem_append_right _ hi)) (by omega)
   refine yl_ (views := [⟨5, (ls zt_ n1 f1).length, prS (ls zt_ n1 f1), A1, p1⟩, ⟨5, (ls zt_ n2 f2).length, prS (ls zt_ n2 f2), A2, p2⟩]) (eqIns_lit (ls zt_ n1 f1) (ls zt_ n2 f2) p1 p2 y1) ?_ R hm hwr ?_ ?_ ?_
   ·intro x hx
    simp only [List.mem_cons, List.not_mem_nil, or_false] at hx
    rcases hx with rfl | rfl
    ·exact viewIns t1 e1 g1
    ·exact viewIns t2 e2 g2
   ·exact d26_
   ·exact k6_
   ·exact k6_
  ·cases hs
 ·cases hs
end Go.Proofs.Ytmljmabbopkpiaa.Vm
end

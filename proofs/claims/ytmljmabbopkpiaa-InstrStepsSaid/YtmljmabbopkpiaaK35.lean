import Derived.Test.YtmljmabbopkpiaaK1
import Derived.Test.YtmljmabbopkpiaaK9
import Derived.Test.YtmljmabbopkpiaaK31
import Derived.Test.YtmljmabbopkpiaaK32
import Derived.Test.YtmljmabbopkpiaaK33
import Derived.Test.YtmljmabbopkpiaaK34
set_option linter.unusedSimpArgs false
set_option linter.unusedVariables false
set_option maxRecDepth 100000
set_option maxHeartbeats 4000000
section
namespace Go.Proofs.Ytmljmabbopkpiaa.Vm
open Go.RowKit
attribute [local push_cast] prS sndsS i64S nav_ins xa_ y9_ y8_ y7_ y6_ nav_snd y5_ y4_ y3_ zq_ z1_ ya_ z5_ zx_ zw_ iOf sRCheck ls_prS ls_prS' inR inN
theorem lsI_raw (p : List Ins) : ls zr_ p.length (fun q => ym_ (p.getD q ⟨0, 0, 0, 0, 0⟩)) = p := ls_prS p
def cRt : FuncId → Option yp_ := yx_ [(112, sRCheck)]
theorem cRt_ok : ∀ f S, cRt f = some S → zj_ Try.prog f S := zn_ ⟨sRCheck_ok, trivial⟩
theorem right18_lit (p : List Ins) (v : Evi) (s : Sta) (p1 p2 p3 : Nat) (hok : ∀ x ∈ p, x.ok) (hl : p.length ≤ 1000000) (hc : s.cells.length ≤ 1000000) : zo_ Try.prog 90 [.sl 1 2 [] 5 0 p.length (some p1), evS v, sr s (.sl 3 4 [] 1 0 s.cells.length (some p2)) (.sl 5 6 [] 3 0 s.sends.length (some p3))] [.gone, .gone, .ro (.arr p.length 5 (prS p)), .gone, .ro (.arr s.cells.length 1 (i64S s.cells)), .gone, .ro (.arr s.sends.length 3 (sndsS s.sends))] (.int .i64 (yr_ p v s)) [.gone] := by
 simp only [evS, sr]
 by_cases h0 : (checkI p).2 = 0
 case neg =>
  rw [show yr_ p v s = 180 by rw [yr_, if_pos h0]]
  refine zf_ (fn := Try.f90) 7 70 0 rfl rfl rfl rfl rfl u10_ rfl fun w0 M E hro => ?_
  repeat' (first | refine Ctl.h ?_ | ((with_reducible intro hif); first | (focus (cases hif; done)) | ((try simp only [JH] at hif); try (exfalso; omega))) | ((with_reducible first | apply J22 cRt_ok za_ | apply J23 fol cRt_ok za_ | apply J24); (·rfl); (· (simp only [push_cast, ↓JP, Nat.reduceAdd, Nat.reduceEqDiff, Nat.reduceLT, Nat.reduceMul, Nat.reduceLeDiff, reduceCtorEq, reduceIte, ↓JK, cRt, lsI_raw, Int.cast_ofNat_Int, h0]; rfl)); (try kernel_rfl); try exact k99_) | fail)
  apply At.endsRet za_ (fn := Try.f90) (rs := [.tmp 6]) Anc.refl hro (lb_ rfl) rfl
  ·exact yo_
  ·exact k4_
  ·exact k5_
  ·rfl
  ·exact k98_
  ·exact k7_
  ·exact fun β => rfl
  ·exact k98_
 by_cases h1 : v.process < 0
 case pos =>
  rw [show yr_ p v s = 181 by rw [yr_, if_neg (by simp [h0]), if_pos u11_]]
  refine zf_ (fn := Try.f90) 7 70 0 rfl rfl rfl rfl rfl u10_ rfl fun w0 M E hro => ?_
  repeat' (first | refine Ctl.h ?_ | ((with_reducible intro hif); first | (focus (cases hif; done)) | ((try simp only [JH] at hif); try (exfalso; omega))) | ((with_reducible first | apply J22 cRt_ok za_ | apply J23 fol cRt_ok za_ | apply J24); (·rfl); (· (simp only [push_cast, ↓JP, Nat.reduceAdd, Nat.reduceEqDiff, Nat.reduceLT, Nat.reduceMul, Nat.reduceLeDiff, reduceCtorEq, reduceIte, ↓JK, cRt, lsI_raw, Int.cast_ofNat_Int, (eq_true h0), h1]; rfl)); (try kernel_rfl); try exact k99_) | fail)
  apply At.endsRet za_ (fn := Try.f90) (rs := [.tmp 6]) Anc.refl hro (lb_ rfl) rfl
  ·exact yo_
  ·exact k4_
  ·exact k5_
  ·rfl
  ·exact k98_
  ·exact k7_
  ·exact fun β => rfl
  ·exact k98_
 by_cases h2 : 65536 < v.process
 case pos =>
  rw [show yr_ p v s = 181 by rw [yr_, if_neg (by simp [h0]), if_pos u11_]]
  refine zf_ (fn := Try.f90) 7 70 0 rfl rfl rfl rfl rfl u10_ rfl fun w0 M E hro => ?_
  repeat' (first | refine Ctl.h ?_ | ((with_reducible intro hif); first | (focus (cases hif; done)) | ((try simp only [JH] at hif); try (exfalso; omega))) | ((with_reducible first | apply J22 cRt_ok za_ | apply J23 fol cRt_ok za_ | apply J24); (·rfl); (· (simp only [push_cast, ↓JP, Nat.reduceAdd, Nat.reduceEqDiff, Nat.reduceLT, Nat.reduceMul, Nat.reduceLeDiff, reduceCtorEq, reduceIte, ↓JK, cRt, lsI_raw, Int.cast_ofNat_Int, (eq_true h0), h1, h2]; rfl)); (try kernel_rfl); try exact k99_) | fail)
  apply At.endsRet za_ (fn := Try.f90) (rs := [.tmp 6]) Anc.refl hro (lb_ rfl) rfl
  ·exact yo_
  ·exact k4_
  ·exact k5_
  ·rfl
  ·exact k98_
  ·exact k7_
  ·exact fun β => rfl
  ·exact k98_
 by_cases h3 : v.ports < 0
 case pos =>
  rw [show yr_ p v s = 181 by rw [yr_, if_neg (by simp [h0]), if_pos u11_]]
  refine zf_ (fn := Try.f90) 7 70 0 rfl rfl rfl rfl rfl u10_ rfl fun w0 M E hro => ?_
  repeat' (first | refine Ctl.h ?_ | ((with_reducible intro hif); first | (focus (cases hif; done)) | ((try simp only [JH] at hif); try (exfalso; omega))) | ((with_reducible first | apply J22 cRt_ok za_ | apply J23 fol cRt_ok za_ | apply J24); (·rfl); (· (simp only [push_cast, ↓JP, Nat.reduceAdd, Nat.reduceEqDiff, Nat.reduceLT, Nat.reduceMul, Nat.reduceLeDiff, reduceCtorEq, reduceIte, ↓JK, cRt, lsI_raw, Int.cast_ofNat_Int, (eq_true h0), h1, h2, h3]; rfl)); (try kernel_rfl); try exact k99_) | fail)
  apply At.endsRet za_ (fn := Try.f90) (rs := [.tmp 6]) Anc.refl hro (lb_ rfl) rfl
  ·exact yo_
  ·exact k4_
  ·exact k5_
  ·rfl
  ·exact k98_
  ·exact k7_
  ·exact fun β => rfl
  ·exact k98_
 by_cases h4 : v.look ≤ 0
 case pos =>
  rw [show yr_ p v s = 181 by rw [yr_, if_neg (by simp [h0]), if_pos u11_]]
  refine zf_ (fn := Try.f90) 7 70 0 rfl rfl rfl rfl rfl u10_ rfl fun w0 M E hro => ?_
  repeat' (first | refine Ctl.h ?_ | ((with_reducible intro hif); first | (focus (cases hif; done)) | ((try simp only [JH] at hif); try (exfalso; omega))) | ((with_reducible first | apply J22 cRt_ok za_ | apply J23 fol cRt_ok za_ | apply J24); (·rfl); (· (simp only [push_cast, ↓JP, Nat.reduceAdd, Nat.reduceEqDiff, Nat.reduceLT, Nat.reduceMul, Nat.reduceLeDiff, reduceCtorEq, reduceIte, ↓JK, cRt, lsI_raw, Int.cast_ofNat_Int, (eq_true h0), h1, h2, h3, h4]; rfl)); (try kernel_rfl); try exact k99_) | fail)
  apply At.endsRet za_ (fn := Try.f90) (rs := [.tmp 6]) Anc.refl hro (lb_ rfl) rfl
  ·exact yo_
  ·exact k4_
  ·exact k5_
  ·rfl
  ·exact k98_
  ·exact k7_
  ·exact fun β => rfl
  ·exact k98_
 by_cases h5 : v.now < 0
 case pos =>
  rw [show yr_ p v s = 181 by rw [yr_, if_neg (by simp [h0]), if_pos u11_]]
  refine zf_ (fn := Try.f90) 7 70 0 rfl rfl rfl rfl rfl u10_ rfl fun w0 M E hro => ?_
  repeat' (first | refine Ctl.h ?_ | ((with_reducible intro hif); first | (focus (cases hif; done)) | ((try simp only [JH] at hif); try (exfalso; omega))) | ((with_reducible first | apply J22 cRt_ok za_ | apply J23 fol cRt_ok za_ | apply J24); (·rfl); (· (simp only [push_cast, ↓JP, Nat.reduceAdd, Nat.reduceEqDiff, Nat.reduceLT, Nat.reduceMul, Nat.reduceLeDiff, reduceCtorEq, reduceIte, ↓JK, cRt, lsI_raw, Int.cast_ofNat_Int, (eq_true h0), h1, h2, h3, h4, h5]; rfl)); (try kernel_rfl); try exact k99_) | fail)
  apply At.endsRet za_ (fn := Try.f90) (rs := [.tmp 6]) Anc.refl hro (lb_ rfl) rfl
  ·exact yo_
  ·exact k4_
  ·exact k5_
  ·rfl
  ·exact k98_
  ·exact k7_
  ·exact fun β => rfl
  ·exact k98_
 by_cases h6 : 281474976710656 < v.now
 case pos =>
  rw [show yr_ p v s = 181 by rw [yr_, if_neg (by simp [h0]), if_pos u11_]]
  refine zf_ (fn := Try.f90) 7 70 0 rfl rfl rfl rfl rfl u10_ rfl fun w0 M E hro => ?_
  repeat' (first | refine Ctl.h ?_ | ((with_reducible intro hif); first | (focus (cases hif; done)) | ((try simp only [JH] at hif); try (exfalso; omega))) | ((with_reducible first | apply J22 cRt_ok za_ | apply J23 fol cRt_ok za_ | apply J24); (·rfl); (· (simp only [push_cast, ↓JP, Nat.reduceAdd, Nat.reduceEqDiff, Nat.reduceLT, Nat.reduceMul, Nat.reduceLeDiff, reduceCtorEq, reduceIte, ↓JK, cRt, lsI_raw, Int.cast_ofNat_Int, (eq_true h0), h1, h2, h3, h4, h5, h6]; rfl)); (try kernel_rfl); try exact k99_) | fail)
  apply At.endsRet za_ (fn := Try.f90) (rs := [.tmp 6]) Anc.refl hro (lb_ rfl) rfl
  ·exact yo_
  ·exact k4_
  ·exact k5_
  ·rfl
  ·exact k98_
  ·exact k7_
  ·exact fun β => rfl
  ·exact k98_
 by_cases h7 : s.at_ < 0
 case pos =>
  rw [show yr_ p v s = 182 by rw [yr_, if_neg (by simp [h0]), if_neg u12_, if_pos u13_]]
  refine zf_ (fn := Try.f90) 7 70 0 rfl rfl rfl rfl rfl u10_ rfl fun w0 M E hro => ?_
  repeat' (first | refine Ctl.h ?_ | ((with_reducible intro hif); first | (focus (cases hif; done)) | ((try simp only [JH] at hif); try (exfalso; omega))) | ((with_reducible first | apply J22 cRt_ok za_ | apply J23 fol cRt_ok za_ | apply J24); (·rfl); (· (simp only [push_cast, ↓JP, Nat.reduceAdd, Nat.reduceEqDiff, Nat.reduceLT, Nat.reduceMul, Nat.reduceLeDiff, reduceCtorEq, reduceIte, ↓JK, cRt, lsI_raw, Int.cast_ofNat_Int, (eq_true h0), h1, h2, h3, h4, h5, h6, h7]; rfl)); (try kernel_rfl); try exact k99_) | fail)
  apply At.endsRet za_ (fn := Try.f90) (rs := [.tmp 6]) Anc.refl hro (lb_ rfl) rfl
  ·exact yo_
  ·exact k4_
  ·exact k5_
  ·rfl
  ·exact k98_
  ·exact k7_
  ·exact fun β => rfl
  ·exact k98_
 by_cases h8 : (p.length : Int) ≤ s.at_
 case pos =>
  rw [show yr_ p v s = 182 by rw [yr_, if_neg (by simp [h0]), if_neg u12_, if_pos u13_]]
  refine zf_ (fn := Try.f90) 7 70 0 rfl rfl rfl rfl rfl u10_ rfl fun w0 M E hro => ?_
  repeat' (first | refine Ctl.h ?_ | ((with_reducible intro hif); first | (focus (cases hif; done)) | ((try simp only [JH] at hif); try (exfalso; omega))) | ((with_reducible first | apply J22 cRt_ok za_ | apply J23 fol cRt_ok za_ | apply J24); (·rfl); (· (simp only [push_cast, ↓JP, Nat.reduceAdd, Nat.reduceEqDiff, Nat.reduceLT, Nat.reduceMul, Nat.reduceLeDiff, reduceCtorEq, reduceIte, ↓JK, cRt, lsI_raw, Int.cast_ofNat_Int, (eq_true h0), h1, h2, h3, h4, h5, h6, h7, h8]; rfl)); (try kernel_rfl); try exact k99_) | fail)
  apply At.endsRet za_ (fn := Try.f90) (rs := [.tmp 6]) Anc.refl hro (lb_ rfl) rfl
  ·exact yo_
  ·exact k4_
  ·exact k5_
  ·rfl
  ·exact k98_
  ·exact k7_
  ·exact fun β => rfl
  ·exact k98_
 by_cases h9 : 1024 < s.cells.length
 case pos =>
  rw [show yr_ p v s = 182 by rw [yr_, if_neg (by simp [h0]), if_neg u12_, if_pos u13_]]
  refine zf_ (fn := Try.f90) 7 70 0 rfl rfl rfl rfl rfl u10_ rfl fun w0 M E hro => ?_
  repeat' (first | refine Ctl.h ?_ | ((with_reducible intro hif); first | (focus (cases hif; done)) | ((try simp only [JH] at hif); try (exfalso; omega))) | ((with_reducible first | apply J22 cRt_ok za_ | apply J23 fol cRt_ok za_ | apply J24); (·rfl); (· (simp only [push_cast, ↓JP, Nat.reduceAdd, Nat.reduceEqDiff, Nat.reduceLT, Nat.reduceMul, Nat.reduceLeDiff, reduceCtorEq, reduceIte, ↓JK, cRt, lsI_raw, Int.cast_ofNat_Int, (eq_true h0), h1, h2, h3, h4, h5, h6, h7, h8, h9]; rfl)); (try kernel_rfl); try exact k99_) | fail)
  apply At.endsRet za_ (fn := Try.f90) (rs := [.tmp 6]) Anc.refl hro (lb_ rfl) rfl
  ·exact yo_
  ·exact k4_
  ·exact k5_
  ·rfl
  ·exact k98_
  ·exact k7_
  ·exact fun β => rfl
  ·exact k98_
 by_cases h10 : s.draws < 0
 case pos =>
  rw [show yr_ p v s = 182 by rw [yr_, if_neg (by simp [h0]), if_neg u12_, if_pos u13_]]
  refine zf_ (fn := Try.f90) 7 70 0 rfl rfl rfl rfl rfl u10_ rfl fun w0 M E hro => ?_
  repeat' (first | refine Ctl.h ?_ | ((with_reducible intro hif); first | (focus (cases hif; done)) | ((try simp only [JH] at hif); try (exfalso; omega))) | ((with_reducible first | apply J22 cRt_ok za_ | apply J23 fol cRt_ok za_ | apply J24); (·rfl); (· (simp only [push_cast, ↓JP, Nat.reduceAdd, Nat.reduceEqDiff, Nat.reduceLT, Nat.reduceMul, Nat.reduceLeDiff, reduceCtorEq, reduceIte, ↓JK, cRt, lsI_raw, Int.cast_ofNat_Int, (eq_true h0), h1, h2, h3, h4, h5, h6, h7, h8, h9, h10]; rfl)); (try kernel_rfl); try exact k99_) | fail)
  apply At.endsRet za_ (fn := Try.f90) (rs := [.tmp 6]) Anc.refl hro (lb_ rfl) rfl
  ·exact yo_
  ·exact k4_
  ·exact k5_
  ·rfl
  ·exact k98_
  ·exact k7_
  ·exact fun β => rfl
  ·exact k98_
 by_cases h11 : 1099511627776 < s.draws
 case pos =>
  rw [show yr_ p v s = 182 by rw [yr_, if_neg (by simp [h0]), if_neg u12_, if_pos u13_]]
  refine zf_ (fn := Try.f90) 7 70 0 rfl rfl rfl rfl rfl u10_ rfl fun w0 M E hro => ?_
  repeat' (first | refine Ctl.h ?_ | ((with_reducible intro hif); first | (focus (cases hif; done)) | ((try simp only [JH] at hif); try (exfalso; omega))) | ((with_reducible first | apply J22 cRt_ok za_ | apply J23 fol cRt_ok za_ | apply J24); (·rfl); (· exact k100_); (try kernel_rfl); try exact k99_) | fail)
  apply At.endsRet za_ (fn := Try.f90) (rs := [.tmp 6]) Anc.refl hro (lb_ rfl) rfl
  ·exact yo_
  ·exact k4_
  ·exact k5_
  ·rfl
  ·exact k98_
  ·exact k7_
  ·exact fun β => rfl
  ·exact k98_
 rw [show yr_ p v s = 0 by rw [yr_, if_neg (by simp [h0]), if_neg u12_, if_neg (by rw [Sta.rightB, decide_eq_true (by omega)]; decide)]]
 refine zf_ (fn := Try.f90) 7 70 0 rfl rfl rfl rfl rfl u10_ rfl fun w0 M E hro => ?_
 repeat' (first | refine Ctl.h ?_ | ((with_reducible intro hif); first | (focus (cases hif; done)) | ((try simp only [JH] at hif); try (exfalso; omega))) | ((with_reducible first | apply J22 cRt_ok za_ | apply J23 fol cRt_ok za_ | apply J24); (·rfl); (· exact k100_); (try kernel_rfl); try exact k99_) | fail)
 apply At.endsRet za_ (fn := Try.f90) (rs := [.tmp 6]) Anc.refl hro (lb_ rfl) rfl
 ·exact yo_
 ·exact k4_
 ·exact k5_
 ·rfl
 ·exact k98_
 ·exact k7_
 ·exact fun β => rfl
 ·exact k98_
end Go.Proofs.Ytmljmabbopkpiaa.Vm
end
section
namespace Go.Proofs.Ytmljmabbopkpiaa.Vm
open Go.RowKit
def sRt18 : yp_ := fun args h m => match args with
 | [v1, .agg [v2, v3, v4, v5, v6], .agg [v7, .bool v8, .arr 8 1 v9, v10, v11, v12]] => match y2_ h 5 (.tup []) v1, y2_ h 1 (.tup []) v10, y2_ h 3 (.tup []) v12 with
  | some (c1, n1, f1, r1), some (c10, n10, f10, r10), some (c12, n12, f12, r12) => bif isI .u64 v2 && isI .i64 v3 && isI .i64 v4 && isI .i64 v5 && isI .i64 v6 && isI .i64 v7 && isI .i64 v11 then some (c1 ∧ c10 ∧ c12 ∧ (∀ q, q < n1 → isIns (f1 q) = true) ∧ (∀ q, q < n10 → isI .i64 (f10 q) = true) ∧ (∀ q, q < n12 → isSnd (f12 q) = true) ∧ (∀ q, q < 8 → isI .i64 (v9 q) = true) ∧ ((∀ x ∈ (ls zr_ n1 f1), x.ok)) ∧ (n1 ≤ 1000000) ∧ (n10 ≤ 1000000), .int .i64 (yr_ (ls zr_ n1 f1) ⟨(iOf v2), (iOf v3), (iOf v4), (iOf v5), (iOf v6)⟩ ⟨(iOf v7), v8, (fun q => iOf (v9 q)), (ls iOf n10 f10), (iOf v11), (ls zm_ n12 f12)⟩), r1 ++ r10 ++ r12, []) else none
  | _, _, _ => none
 | _ => none
theorem sRt18_ok : zj_ Try.prog 90 sRt18 := by
 refine ⟨zg_ (by kernel_rfl), fun args h m c v rd wr hs hm hc w0 M β h' w R hrd hwr hst => ?_⟩
 unfold sRt18 at hs
 split at hs
 ·rename_i v1 v2 v3 v4 v5 v6 v7 v8 v9 v10 v11 v12
  split at hs
  ·rename_i c1 n1 f1 r1 c10 n10 f10 r10 c12 n12 f12 r12 a1 a10 a12
   obtain ⟨hb, hs⟩ := zk_ hs
   simp only [Option.some.injEq, Prod.mk.injEq] at hs
   obtain ⟨rfl, rfl, rfl, rfl⟩ := hs
   simp only [Bool.and_eq_true] at hb
   obtain ⟨⟨⟨⟨⟨⟨b2, b3⟩, b4⟩, b5⟩, b6⟩, b7⟩, b11⟩ := hb
   obtain ⟨k1, k10, k12, g1, g10, g12, g9, y1, y2, y3⟩ := hc
   obtain ⟨A1, p1, d1, e1, t1⟩ := zi_ R a1 k1 (fun i hi => hrd i (List.mem_append_left _ (List.mem_append_left _ hi))) (by omega)
   obtain ⟨A10, p10, d10, e10, t10⟩ := zi_ R a10 k10 (fun i hi => hrd i (List.mem_append_left _ (List.mem_append_right _ hi))) (by omega)
   obtain ⟨A12, p12, d12, e12, t12⟩ := zi_ R a12 k12 (fun i hi => hrd i (List.mem_append_right _ hi)) (by omega)
   refine yj_ (views := [⟨5, (ls zr_ n1 f1).length, prS (ls zr_ n1 f1), A1, p1⟩, ⟨1, (ls iOf n10 f10).length, i64S (ls iOf n10 f10), A10, p10⟩, ⟨3, (ls zm_ n12 f12).length, sndsS (ls zm_ n12 f12), A12, p12⟩]) (right18_lit (ls zr_ n1 f1) ⟨(iOf v2), (iOf v3), (iOf v4), (iOf v5), (iOf v6)⟩ ⟨(iOf v7), v8, (fun q => iOf (v9 q)), (ls iOf n10 f10), (iOf v11), (ls zm_ n12 f12)⟩ p1 p10 p12 y1 (by rw [zc_]; exact y2) u14_) ?_ R hm hwr ?_ ?_ ?_
   ·intro x hx
    simp only [List.mem_cons, List.not_mem_nil, or_false] at hx
    rcases hx with rfl | rfl | rfl
    ·exact viewIns t1 e1 g1
    ·exact yf_ t10 e10 g10
    ·exact y0_ t12 e12 g12
   ·intro β1 hv
    simp only [Vd, zc_, and_true] at hv
    obtain ⟨z1, z10, z12⟩ := hv
    simp only [denL, z8_, z6_, z9_, zs_, zc_, ym_, evS, sr, csl, ssl, z1, z10, z12, d1, d10, d12, zd_ b2, zd_ b3, zd_ b4, zd_ b5, zd_ b6, zd_ b7, zd_ b11, ← r8Den (β := β) (β1 := β1) g9]
   ·exact k59_
   ·exact k59_
  ·cases hs
 ·cases hs
def runB (P : List Ins) (v : Evi) : Nat → Sta → Bool → Bool → Bool × Bool
 | 0, _, c, d => (c, d)
 | n + 1, s, c, d => if s.ended = true then (c, d) else
  if stepE P v s = 0 then runB P v n (yl_ P v s) (c || decide ((insAt P s.at_).op = 6)) (d || decide ((insAt P s.at_).op = 8)) else (c, d)
theorem runB_go {P : List Ins} {v : Evi} {n : Nat} {s : Sta} {c d : Bool} (h : s.ended = false) (hn : 0 < n) (he : stepE P v s = 0) : runB P v n s c d = runB P v (n - 1) (yl_ P v s) (c || decide ((insAt P s.at_).op = 6)) (d || decide ((insAt P s.at_).op = 8)) := by
 obtain ⟨n, rfl⟩ : ∃ k, n = k + 1 := ⟨n - 1, by omega⟩
 simp [runB, h, he]
structure FG (P : List Ins) (s : Sta) : Prop where
 sg : SG P s
 rg : ∀ q, R64 (s.regs q)
 cr : CR s
 sd : s.sends.length ≤ 256
theorem FG.ook {P : List Ins} {v : Evi} {s : Sta} (h : FG P s) (hP : PG P) (V : VOk v) : OOk s v (insAt P s.at_) := by
 have R := h.sg.ri hP
 have ⟨o0, o1, a0, a1, b0, b1, c0, c1, n0, n1⟩ := R.ok
 exact ⟨R, V, h.sg.sok hP, h.rg, n0, n1, by have := h.sd; omega⟩
theorem doS_sends {s : Sta} {v : Evi} {x : Ins} (h : s.sends.length ≤ 256) : (doS s v x).sends.length ≤ 256 := by
 by_cases hE : doE s v x = 0
 ·by_cases h8 : x.op = 8
  ·have hl : s.sends.length < 256 := by
    rcases Nat.lt_or_ge s.sends.length 256 with h' | h'
    ·exact h'
    ·exfalso
     have h3 : doE s v x = sendE s v x := by simp [doE, h8]
     unfold sendE at h3
     rw [hE, if_pos h'] at h3
     split at h3
     ·omega
     ·split at h3
      ·omega
      ·split at h3 <;> omega
   have e : doS s v x = { s with at_ := s.at_ + 1, sends := s.sends ++ [⟨x.n, s.regs x.a.toNat, s.regs x.b.toNat⟩] } := by simp [doS, hE, h8]
   rw [e]
   simp only [List.length_append, List.length_cons, List.length_nil]
   omega
  ·have e : (doS s v x).sends = s.sends := by
    unfold doS
    simp only [apply_ite Sta.sends, if_neg h8, Sta.put, ite_self]
   rw [e]; exact h
 ·rw [doS_bad hE]; exact h
theorem doS_cells6 {s : Sta} {v : Evi} {x : Ins} (h : x.op ≠ 6) : (doS s v x).cells = s.cells := by
 unfold doS
 simp only [apply_ite Sta.cells, if_neg h, Sta.put, ite_self]
theorem doS_sends8 {s : Sta} {v : Evi} {x : Ins} (h : x.op ≠ 8) : (doS s v x).sends = s.sends := by
 unfold doS
 simp only [apply_ite Sta.sends, if_neg h, Sta.put, ite_self]
theorem doS_clen (s : Sta) (v : Evi) (x : Ins) : (doS s v x).cells.length = s.cells.length := by
 unfold doS
 simp only [apply_ite Sta.cells, apply_ite List.length, Sta.put, List.length_set, ite_self]
theorem doS_slen {s : Sta} {v : Evi} {x : Ins} (hE : doE s v x = 0) (h : x.op = 8) : (doS s v x).sends.length = s.sends.length + 1 := by
 have e : doS s v x = { s with at_ := s.at_ + 1, sends := s.sends ++ [⟨x.n, s.regs x.a.toNat, s.regs x.b.toNat⟩] } := by simp [doS, hE, h]
 rw [e]
 simp only [List.length_append, List.length_cons, List.length_nil]
theorem FG.step {P : List Ins} {v : Evi} {s : Sta} (h : FG P s) (hP : PG P) (V : VOk v) (he : s.ended = false) : FG P (yl_ P v s) := by
 have K := h.ook hP V
 have e : yl_ P v s = doS s v (insAt P s.at_) := by unfold yl_; rw [if_neg (by rw [he]; exact Bool.noConfusion)]
 rw [e]
 have hR := doS_R K h.cr
 exact ⟨doS_good h.sg hP, hR.1, hR.2, doS_sends h.sd⟩
structure FS where
 k : Nat
 s : Sta
 x : Ins
 tr : List Int
 a : Int
 fc : Bool
 fs : Bool
 nc : Nat
 ns : Nat
def FS.st (z : FS) : List Snd := bif z.fs then z.s.sends else []
structure FInv (P : List Ins) (v : Evi) (f : Nat) (s0 : Sta) (R : RR) (B : Bool × Bool) (z : FS) : Prop where
 hk : z.k ≤ f
 hg : FG P z.s
 hl : z.tr.length = z.k
 hr : runA P v (f - z.k) z.s z.x z.tr z.a = R
 hb : runB P v (f - z.k) z.s z.fc z.fs = B
 hc : z.s.cells.length = z.nc
 hs : z.s.sends.length = z.ns
 hc2 : z.fc = false → z.s.cells = s0.cells
 hs2 : z.fs = false → z.s.sends = s0.sends
theorem stepS_of {P : List Ins} {v : Evi} {s : Sta} (he : s.ended = false) : yl_ P v s = doS s v (insAt P s.at_) := by unfold yl_; rw [if_neg (by rw [he]; exact Bool.noConfusion)]
theorem stepE_of {P : List Ins} {v : Evi} {s : Sta} (he : s.ended = false) : stepE P v s = doE s v (insAt P s.at_) := by unfold stepE; rw [if_neg (by rw [he]; exact Bool.noConfusion)]
theorem FInv.step {P : List Ins} {v : Evi} {f : Nat} {s0 : Sta} {R : RR} {B : Bool × Bool} {z : FS} (H : FInv P v f s0 R B z) (hP : PG P) (V : VOk v) (he : z.s.ended = false) (hkf : z.k < f) (x : Ins) (hx : insAt P z.s.at_ = x) (h : doE z.s v x = 0) (c d : Bool) (m : Nat)
  (hc : c = (z.fc || decide (x.op = 6))) (hd : d = (z.fs || decide (x.op = 8))) (hm : (doS z.s v x).sends.length = m) : FInv P v f s0 R B ⟨z.k + 1, doS z.s v x, stepX P z.s z.x, z.tr ++ [z.s.at_], z.s.at_, c, d, z.nc, m⟩ := by
 subst hx
 have e := stepS_of (P := P) (v := v) he
 have h' : stepE P v z.s = 0 := by rw [stepE_of he]; exact h
 refine ⟨hkf, ?_, by simp [H.hl], ?_, ?_, ?_, hm, fun hf => ?_, fun hf => ?_⟩
 ·have := H.hg.step hP V he; rwa [e] at this
 ·have := H.hr; rw [runA_go he (by omega) h', e] at this
  exact this
 ·have := H.hb; rw [runB_go he (by omega) h', e, ← hc, ← hd] at this
  exact this
 ·exact (doS_clen _ _ _).trans H.hc
 ·dsimp only at hf ⊢
  rw [hf] at hc
  have hc := hc.symm
  simp only [Bool.or_eq_false_iff, decide_eq_false_iff_not] at hc
  rw [doS_cells6 hc.2]; exact H.hc2 hc.1
 ·dsimp only at hf ⊢
  rw [hf] at hd
  have hd := hd.symm
  simp only [Bool.or_eq_false_iff, decide_eq_false_iff_not] at hd
  rw [doS_sends8 hd.2]; exact H.hs2 hd.1
def cRf (l : List Int) : HB := .own 2 (.arr l.length 1 (i64S l)) false
def sRf (l : List Snd) : HB := .own 200 (.arr l.length 3 (sndsS l)) false
end Go.Proofs.Ytmljmabbopkpiaa.Vm
end
section
open Go.Proofs.Ytmljmabbopkpiaa.Vm Go.RowKit
section
namespace Go.Proofs.Ytmljmabbopkpiaa.Vm
open Go.RowKit
theorem eqI64_lit (xs ys : List Int) (p1 p2 : Nat) (hx : xs.length ≤ 281474976710656) : zo_ Try.prog 61 [.sl 1 2 [] 1 0 xs.length (some p1), .sl 3 4 [] 1 0 ys.length (some p2)] [.gone, .gone, .ro (.arr xs.length 1 (i64S xs)), .gone, .ro (.arr ys.length 1 (i64S ys))] (.bool (eqL xs ys)) [.gone] := by
 refine zf_ (fn := Try.f61) 5 26 0 rfl rfl rfl rfl rfl (by simp only [ze_, zb_, hp]; simp [HB.born]) rfl fun w0 M E hro => ?_
 repeat' (first | refine Ctl.h ?_ | ((with_reducible intro hif); first | (focus (cases hif; done)) | ((try simp only [JH] at hif); try (exfalso; omega))) | ((with_reducible first | apply J22 zv_ za_ | apply J23 fol zv_ za_ | apply J24); (·rfl); (· exact k16_); (try kernel_rfl); try exact xd_) | fail)
 ·have hne : xs ≠ ys := fun e => hif (by rw [e])
  apply At.endsRet za_ (fn := Try.f61) (rs := [.tmp 4]) Anc.refl hro (lb_ rfl) rfl
  ·exact k3_
  ·exact k4_
  ·exact k5_
  ·rfl
  ·exact k6_
  ·exact k7_
  ·rw [eqL_false hne]; exact fun β => rfl
  ·exact k6_
 ·refine WF.loopAt (fun j => j ≤ xs.length ∧ ∀ q, q < j → xs.getD q 0 = ys.getD q 0) (fun j => [(0, .sl 1 2 [] 1 0 xs.length (some p1)), (1, .sl 3 4 [] 1 0 ys.length (some p2)), (12, .nat .i64 xs.length), (13, .nat .i64 j)]) (fun j => [.gone, .gone, .ro (.arr xs.length 1 (i64S xs)), .gone, .ro (.arr ys.length 1 (i64S ys))]) (fun j => xs.length - j) 0 ⟨Nat.zero_le _, fun q hq => absurd hq (Nat.not_lt_zero q)⟩ ?_ ?_ rfl ?_ ?_ rfl ?_
  ·exact k8_
  ·exact k5_
  ·exact k6_
  ·exact k6_
  have hlen := hif
  rintro j ⟨hj, heq⟩
  repeat' (first | refine Ctl.h ?_ | ((with_reducible intro hif); first | (focus (cases hif; done)) | ((try simp only [JH] at hif); try (exfalso; omega))) | ((with_reducible first | apply J22 zv_ za_ | apply J23 fol zv_ za_ | apply J24); (·rfl); (· (simp only [push_cast, ↓JP, Nat.reduceAdd, Nat.reduceEqDiff, Nat.reduceLT, Nat.reduceMul, Nat.reduceLeDiff, reduceCtorEq, reduceIte, i64S, i64S, inN]; rfl)); (try kernel_rfl); try exact k17_) | fail)
  ·have hne : xs ≠ ys := by rintro rfl; simp at hif
   apply At.endsRet za_ (fn := Try.f61) (rs := [.tmp 4]) Anc.refl hro (lb_ rfl) rfl
   ·exact k3_
   ·exact k4_
   ·exact k5_
   ·rfl
   ·exact k6_
   ·exact k7_
   ·rw [eqL_false hne]; exact fun β => rfl
   ·exact k6_
  ·have hq : xs.getD j 0 = ys.getD j 0 := hif
   refine At.next (j + 1) ?_ ?_ ?_ rfl ?_ ?_ rfl
   ·exact k9_
   ·exact k8_
   ·exact k5_
   ·exact k6_
   ·exact k6_
  ·have hjn : j = xs.length := by omega
   subst hjn
   have he : xs = ys := ext_getD 0 hlen heq
   apply At.endsRet za_ (fn := Try.f61) (rs := [.tmp 4]) Anc.refl hro (lb_ rfl) rfl
   ·exact k3_
   ·exact k4_
   ·exact k5_
   ·rfl
   ·exact k6_
   ·exact k7_
   ·rw [eqL_true he]; exact fun β => rfl
   ·exact k6_
def sEqI64 : yp_ := fun args h m => match args with
 | [v1, v2] => match y2_ h 1 (.tup []) v1, y2_ h 1 (.tup []) v2 with
  | some (c1, n1, f1, r1), some (c2, n2, f2, r2) => some (c1 ∧ c2 ∧ (∀ q, q < n1 → isI .i64 (f1 q) = true) ∧ (∀ q, q < n2 → isI .i64 (f2 q) = true) ∧ ((ls iOf n1 f1).length ≤ 281474976710656), .bool (eqL (ls iOf n1 f1) (ls iOf n2 f2)), r1 ++ r2, [])
  | _, _ => none
 | _ => none
theorem sEqI64_ok : zj_ Try.prog 61 sEqI64 := by
 refine ⟨zg_ (by kernel_rfl), fun args h m c v rd wr hs hm hc w0 M β h' w R hrd hwr hst => ?_⟩
 unfold sEqI64 at hs
 split at hs
 ·rename_i v1 v2
  split at hs
  ·rename_i c1 n1 f1 r1 c2 n2 f2 r2 a1 a2
   simp only [Option.some.injEq, Prod.mk.injEq] at hs
   obtain ⟨rfl, rfl, rfl, rfl⟩ := hs
   obtain ⟨k1, k2, g1, g2, y1⟩ := hc
   obtain ⟨A1, p1, d1, e1, t1⟩ := zi_ R a1 k1 (fun i hi => hrd i (List.mem_append_left _ hi)) (by omega)
   obtain ⟨A2, p2, d2, e2, t2⟩ := zi_ R a2 k2 (fun i hi => hrd i (List.mem_append_right _ hi)) (by omega)
   refine yj_ (views := [⟨1, (ls iOf n1 f1).length, i64S (ls iOf n1 f1), A1, p1⟩, ⟨1, (ls iOf n2 f2).length, i64S (ls iOf n2 f2), A2, p2⟩]) (eqI64_lit (ls iOf n1 f1) (ls iOf n2 f2) p1 p2 y1) ?_ R hm hwr ?_ ?_ ?_
   ·intro x hx
    simp only [List.mem_cons, List.not_mem_nil, or_false] at hx
    rcases hx with rfl | rfl
    ·exact yf_ t1 e1 g1
    ·exact yf_ t2 e2 g2
   ·intro β1 hv
    simp only [Vd, zc_, and_true] at hv
    obtain ⟨z1, z2⟩ := hv
    simp only [denL, z8_, z6_, z9_, zs_, zc_, z1, z2, d1, d2]
   ·exact k6_
   ·exact k6_
  ·cases hs
 ·cases hs
end Go.Proofs.Ytmljmabbopkpiaa.Vm
end
end

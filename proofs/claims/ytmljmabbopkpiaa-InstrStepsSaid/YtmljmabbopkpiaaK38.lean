import Derived.Test.YtmljmabbopkpiaaK1
import Derived.Test.YtmljmabbopkpiaaK32
set_option linter.unusedSimpArgs false
set_option linter.unusedVariables false
set_option maxRecDepth 100000
set_option maxHeartbeats 4000000
section
namespace Go.Proofs.Ytmljmabbopkpiaa.Vm
open Go.RowKit
attribute [local push_cast] prS sndsS i64S nav_ins xa_ y9_ y8_ y7_ y6_ nav_snd y5_ y4_ y3_ zq_ z1_ ya_ z5_ zx_ zw_ iOf
def eB (g i n : Nat) : HB := .own 102 (.agg [.ptr g [], .sl i i [] 5 0 n none]) true
def cBg : FuncId → Option yp_ := yx_ [(62, sCl64)]
theorem cBg_ok : ∀ f S, cBg f = some S → zj_ Try.prog f S := zn_ ⟨sCl64_ok, trivial⟩
theorem begin_lit (t s q o y d : Int) (cs : List Int) (p : Nat) (hc : cs.length ≤ 1000000) : zo_ Try.prog 59 [.agg [.agg [.int .i64 t, .int .i64 s, .int .i64 q], .int .i64 o, .int .i64 y], .sl 1 2 [] 1 0 cs.length (some p), .int .i64 d] [.gone, .gone, .ro (.arr cs.length 1 (i64S cs))]
  (.agg [.int .i64 0, .bool false, .arr 8 1 (fun j => .int .i64 (begR y t s j)), .sl 3 3 [] 1 0 cs.length none, .int .i64 d, .sl 0 0 [] 0 0 0 (some 0)]) [.gone, .gone, .gone, .own 2 (.arr cs.length 1 (i64S cs)) false] := by
 refine zf_ (fn := Try.f59) 3 20 0 rfl rfl rfl rfl rfl u19_ rfl fun w0 M E hro => ?_
 repeat' (first | refine Ctl.h ?_ | ((with_reducible intro hif); first | (focus (cases hif; done)) | ((try simp only [JH] at hif); try (exfalso; omega))) | ((with_reducible first | apply J22 cBg_ok za_ | apply J23 fol cBg_ok za_ | apply J24); (·rfl); (· (simp only [push_cast, ↓JP, Nat.reduceAdd, Nat.reduceEqDiff, Nat.reduceLT, Nat.reduceMul, Nat.reduceLeDiff, reduceCtorEq, reduceIte, ↓JK, JM, cBg, sCl64, JE, inR, inN]; rfl)); (try kernel_rfl); try exact k26_) | fail)
 apply At.endsPick [0, 1, 2, 5] za_ (fn := Try.f59) (rs := [.cell 6 53]) Anc.refl hro (lb_ rfl) rfl
 ·exact yo_
 ·exact k14_
 ·rfl
 ·rfl
 ·rfl
 ·exact k30_
 ·rfl
 ·exact k110_
 ·exact k7_
 ·exact fun β => rfl
 ·exact k110_
def sBegin : yp_ := fun args h m => match args with
 | [.agg [.agg [v1, v2, v3], v4, v5], v6, v7] => match y2_ h 1 (.tup []) v6 with
  | some (c6, n6, f6, r6) => bif isI .i64 v1 && isI .i64 v2 && isI .i64 v3 && isI .i64 v4 && isI .i64 v5 && isI .i64 v7 then some (c6 ∧ (∀ q, q < n6 → isI .i64 (f6 q) = true) ∧ (n6 ≤ 1000000), .agg [.int .i64 0, .bool false, .arr 8 1 (fun j => .int .i64 (begR (iOf v5) (iOf v1) (iOf v2) j)), .sl m m [] 1 0 (ls iOf n6 f6).length none, .int .i64 (iOf v7), .sl 0 0 [] 0 0 0 (some 0)], r6, [(m, .own 2 (.arr (ls iOf n6 f6).length 1 (i64S (ls iOf n6 f6))) false)]) else none
  | _ => none
 | _ => none
theorem sBegin_ok : zj_ Try.prog 59 sBegin := by
 refine ⟨zg_ (by kernel_rfl), fun args h m c v rd wr hs hm hc w0 M β h' w R hrd hwr hst => ?_⟩
 unfold sBegin at hs
 split at hs
 ·rename_i v1 v2 v3 v4 v5 v6 v7
  split at hs
  ·rename_i c6 n6 f6 r6 a6
   obtain ⟨hb, hs⟩ := zk_ hs
   simp only [Option.some.injEq, Prod.mk.injEq] at hs
   obtain ⟨rfl, rfl, rfl, rfl⟩ := hs
   simp only [Bool.and_eq_true] at hb
   obtain ⟨⟨⟨⟨⟨b1, b2⟩, b3⟩, b4⟩, b5⟩, b7⟩ := hb
   obtain ⟨k6, g6, y1⟩ := hc
   obtain ⟨A6, p6, d6, e6, t6⟩ := zi_ R a6 k6 (fun i hi => hrd i hi) (by omega)
   refine yj_ (views := [⟨1, (ls iOf n6 f6).length, i64S (ls iOf n6 f6), A6, p6⟩]) (begin_lit (iOf v1) (iOf v2) (iOf v3) (iOf v4) (iOf v5) (iOf v7) (ls iOf n6 f6) p6 (by rw [zc_]; exact y1)) ?_ R hm hwr ?_ ?_ ?_
   ·intro x hx
    simp only [List.mem_cons, List.not_mem_nil, or_false] at hx
    subst hx
    ·exact yf_ t6 e6 g6
   ·intro β1 hv
    simp only [Vd, zc_, and_true] at hv
    have z6 := hv
    simp only [denL, z8_, z6_, z9_, zs_, zc_, z6, d6, zd_ b1, zd_ b2, zd_ b3, zd_ b4, zd_ b5, zd_ b7]
   ·exact k110_
   ·exact k110_
  ·cases hs
 ·cases hs
def cOn : FuncId → Option yp_ := yx_ [(75, sOpenG), (32, sClI)]
theorem cOn_ok : ∀ f S, cOn f = some S → zj_ Try.prog f S := zn_ ⟨sOpenG_ok, sClI_ok, trivial⟩
theorem Open_good (P : List Ins) (v : Evi) (s : Sta) (p1 p2 p3 : Nat) (hP : ∀ x ∈ P, x.ok) (hn : P.length ≤ 1000000) (hc : s.cells.length ≤ 1000000) (hs : s.sends.length ≤ 1000000) (hE : yr_ P v s = 0) : zo_ Try.prog 89 [.sl 1 2 [] 5 0 P.length (some p1), .agg [.int .u64 v.seed, .int .i64 v.process, .int .i64 v.ports, .int .i64 v.look, .int .i64 v.now], .agg [.int .i64 s.at_, .bool s.ended, .arr 8 1 (fun q => .int .i64 (s.regs q)), .sl 3 4 [] 1 0 s.cells.length (some p2), .int .i64 s.draws, .sl 5 6 [] 3 0 s.sends.length (some p3)]]
  [.gone, .gone, .ro (.arr P.length 5 (prS P)), .gone, .ro (.arr s.cells.length 1 (i64S s.cells)), .gone, .ro (.arr s.sends.length 3 (sndsS s.sends))]
  (.tup [.ptr 7 [], .int .i64 0]) [.gone, .gone, .gone, .gone, .gone, .gone, .gone, eB 8 11 P.length, mB s v Ins0 9 10, cB s, sB s, prO P] := by
 have hn2 : P.length ≤ 281474976710656 := by omega
 refine zf_ (fn := Try.f89) 7 25 0 rfl rfl rfl rfl rfl u19_ rfl fun w0 M E hro => ?_
 repeat' (first | refine Ctl.h ?_ | ((with_reducible intro hif); first | (focus (cases hif; done)) | ((try simp only [JH] at hif); try (exfalso; omega))) | ((with_reducible first | apply J22 cOn_ok za_ | apply J23 fol cOn_ok za_ | apply J24); (·rfl); (· (simp only [push_cast, ↓JP, Nat.reduceAdd, Nat.reduceEqDiff, Nat.reduceLT, Nat.reduceMul, Nat.reduceLeDiff, reduceCtorEq, reduceIte, ↓JK, cOn, sOpenG, sClI, JE, inR, inN, hE]; rfl)); (try kernel_rfl); try exact k111_) | fail)
 apply At.endsPick [0, 1, 2, 3, 4, 5, 6, 13, 9, 10, 11, 12] za_ (fn := Try.f89) (rs := [.tmp 6, .tmp 7]) Anc.refl hro (lb_ rfl) rfl
 ·exact yo_
 ·exact k14_
 ·rfl
 ·rfl
 ·rfl
 ·exact k30_
 ·rfl
 ·exact k110_
 ·exact k7_
 ·exact fun β => rfl
 ·exact k110_
def cOb : FuncId → Option yp_ := yx_ [(75, sOpenB), (32, sClI)]
theorem cOb_ok : ∀ f S, cOb f = some S → zj_ Try.prog f S := zn_ ⟨sOpenB_ok, sClI_ok, trivial⟩
theorem Open_bad (P : List Ins) (v : Evi) (s : Sta) (p1 p2 p3 : Nat) (hP : ∀ x ∈ P, x.ok) (hn : P.length ≤ 1000000) (hc : s.cells.length ≤ 1000000) (hs : s.sends.length ≤ 1000000) (hE : yr_ P v s ≠ 0) : zo_ Try.prog 89 [.sl 1 2 [] 5 0 P.length (some p1), .agg [.int .u64 v.seed, .int .i64 v.process, .int .i64 v.ports, .int .i64 v.look, .int .i64 v.now], .agg [.int .i64 s.at_, .bool s.ended, .arr 8 1 (fun q => .int .i64 (s.regs q)), .sl 3 4 [] 1 0 s.cells.length (some p2), .int .i64 s.draws, .sl 5 6 [] 3 0 s.sends.length (some p3)]]
  [.gone, .gone, .ro (.arr P.length 5 (prS P)), .gone, .ro (.arr s.cells.length 1 (i64S s.cells)), .gone, .ro (.arr s.sends.length 3 (sndsS s.sends))]
  (.tup [.nilp, .int .i64 (yr_ P v s)]) [.gone] := by
 have hn2 : P.length ≤ 281474976710656 := by omega
 refine zf_ (fn := Try.f89) 7 25 0 rfl rfl rfl rfl rfl u19_ rfl fun w0 M E hro => ?_
 repeat' (first | refine Ctl.h ?_ | ((with_reducible intro hif); first | (focus (cases hif; done)) | ((try simp only [JH] at hif); try (exfalso; omega))) | ((with_reducible first | apply J22 cOb_ok za_ | apply J23 fol cOb_ok za_ | apply J24); (·rfl); (· (simp only [push_cast, ↓JP, Nat.reduceAdd, Nat.reduceEqDiff, Nat.reduceLT, Nat.reduceMul, Nat.reduceLeDiff, reduceCtorEq, reduceIte, ↓JK, cOb, sOpenB, sClI, JE, inR, inN, hE]; rfl)); (try kernel_rfl); try exact k111_) | fail)
 apply At.endsRet za_ (fn := Try.f89) (rs := [.tmp 6, .tmp 7]) Anc.refl hro (lb_ rfl) rfl
 ·exact yo_
 ·exact k4_
 ·exact k5_
 ·rfl
 ·exact k110_
 ·exact k7_
 ·exact fun β => rfl
 ·exact k110_
def sOnG : yp_ := fun args h m => match args with
 | [v1, .agg [v2, v3, v4, v5, v6], .agg [v7, .bool v8, .arr 8 1 v9, v10, v11, v12]] => match y2_ h 5 (.tup []) v1, y2_ h 1 (.tup []) v10, y2_ h 3 (.tup []) v12 with
  | some (c1, n1, f1, r1), some (c10, n10, f10, r10), some (c12, n12, f12, r12) => bif isI .u64 v2 && isI .i64 v3 && isI .i64 v4 && isI .i64 v5 && isI .i64 v6 && isI .i64 v7 && isI .i64 v11 then some (c1 ∧ c10 ∧ c12 ∧ (∀ q, q < n1 → isIns (f1 q) = true) ∧ (∀ q, q < n10 → isI .i64 (f10 q) = true) ∧ (∀ q, q < n12 → isSnd (f12 q) = true) ∧ (∀ q, q < 8 → isI .i64 (v9 q) = true) ∧ ((∀ x ∈ (ls zr_ n1 f1), x.ok)) ∧ (n1 ≤ 1000000) ∧ (n10 ≤ 1000000) ∧ (n12 ≤ 1000000) ∧ (yr_ (ls zr_ n1 f1) ⟨(iOf v2), (iOf v3), (iOf v4), (iOf v5), (iOf v6)⟩ ⟨(iOf v7), v8, (fun q => iOf (v9 q)), (ls iOf n10 f10), (iOf v11), (ls zm_ n12 f12)⟩ = 0), .tup [.ptr m [], .int .i64 0], r1 ++ r10 ++ r12, [(m, eB (m + 1) (m + 4) (ls zr_ n1 f1).length), (m + 1, mB ⟨(iOf v7), v8, (fun q => iOf (v9 q)), (ls iOf n10 f10), (iOf v11), (ls zm_ n12 f12)⟩ ⟨(iOf v2), (iOf v3), (iOf v4), (iOf v5), (iOf v6)⟩ Ins0 (m + 2) (m + 3)), (m + 2, cB ⟨(iOf v7), v8, (fun q => iOf (v9 q)), (ls iOf n10 f10), (iOf v11), (ls zm_ n12 f12)⟩), (m + 3, sB ⟨(iOf v7), v8, (fun q => iOf (v9 q)), (ls iOf n10 f10), (iOf v11), (ls zm_ n12 f12)⟩), (m + 4, prO (ls zr_ n1 f1))]) else none
  | _, _, _ => none
 | _ => none
theorem sOnG_ok : zj_ Try.prog 89 sOnG := by
 refine ⟨zg_ (by kernel_rfl), fun args h m c v rd wr hs hm hc w0 M β h' w R hrd hwr hst => ?_⟩
 unfold sOnG at hs
 split at hs
 ·rename_i v1 v2 v3 v4 v5 v6 v7 v8 v9 v10 v11 v12
  split at hs
  ·rename_i c1 n1 f1 r1 c10 n10 f10 r10 c12 n12 f12 r12 a1 a10 a12
   obtain ⟨hb, hs⟩ := zk_ hs
   simp only [Option.some.injEq, Prod.mk.injEq] at hs
   obtain ⟨rfl, rfl, rfl, rfl⟩ := hs
   simp only [Bool.and_eq_true] at hb
   obtain ⟨⟨⟨⟨⟨⟨b2, b3⟩, b4⟩, b5⟩, b6⟩, b7⟩, b11⟩ := hb
   obtain ⟨k1, k10, k12, g1, g10, g12, g9, y1, y2, y3, y4, y5⟩ := hc
   obtain ⟨A1, p1, d1, e1, t1⟩ := zi_ R a1 k1 (fun i hi => hrd i (List.mem_append_left _ (List.mem_append_left _ hi))) (by omega)
   obtain ⟨A10, p10, d10, e10, t10⟩ := zi_ R a10 k10 (fun i hi => hrd i (List.mem_append_left _ (List.mem_append_right _ hi))) (by omega)
   obtain ⟨A12, p12, d12, e12, t12⟩ := zi_ R a12 k12 (fun i hi => hrd i (List.mem_append_right _ hi)) (by omega)
   refine yj_ (views := [⟨5, (ls zr_ n1 f1).length, prS (ls zr_ n1 f1), A1, p1⟩, ⟨1, (ls iOf n10 f10).length, i64S (ls iOf n10 f10), A10, p10⟩, ⟨3, (ls zm_ n12 f12).length, sndsS (ls zm_ n12 f12), A12, p12⟩]) (Open_good (ls zr_ n1 f1) ⟨(iOf v2), (iOf v3), (iOf v4), (iOf v5), (iOf v6)⟩ ⟨(iOf v7), v8, (fun q => iOf (v9 q)), (ls iOf n10 f10), (iOf v11), (ls zm_ n12 f12)⟩ p1 p10 p12 y1 (by rw [zc_]; exact y2) (by rw [zc_]; exact y3) (by rw [zc_]; exact y4) y5) ?_ R hm hwr ?_ ?_ ?_
   ·intro x hx
    simp only [List.mem_cons, List.not_mem_nil, or_false] at hx
    rcases hx with rfl | rfl | rfl
    ·exact viewIns t1 e1 g1
    ·exact yf_ t10 e10 g10
    ·exact y0_ t12 e12 g12
   ·intro β1 hv
    simp only [Vd, zc_, and_true] at hv
    obtain ⟨z1, z10, z12⟩ := hv
    simp only [denL, z8_, z6_, z9_, zs_, zc_, z1, z10, z12, d1, d10, d12, zd_ b2, zd_ b3, zd_ b4, zd_ b5, zd_ b6, zd_ b7, zd_ b11, ← r8Den (β := β) (β1 := β1) g9]
   ·exact k110_
   ·exact k110_
  ·cases hs
 ·cases hs
def sOnB : yp_ := fun args h m => match args with
 | [v1, .agg [v2, v3, v4, v5, v6], .agg [v7, .bool v8, .arr 8 1 v9, v10, v11, v12]] => match y2_ h 5 (.tup []) v1, y2_ h 1 (.tup []) v10, y2_ h 3 (.tup []) v12 with
  | some (c1, n1, f1, r1), some (c10, n10, f10, r10), some (c12, n12, f12, r12) => bif isI .u64 v2 && isI .i64 v3 && isI .i64 v4 && isI .i64 v5 && isI .i64 v6 && isI .i64 v7 && isI .i64 v11 then some (c1 ∧ c10 ∧ c12 ∧ (∀ q, q < n1 → isIns (f1 q) = true) ∧ (∀ q, q < n10 → isI .i64 (f10 q) = true) ∧ (∀ q, q < n12 → isSnd (f12 q) = true) ∧ (∀ q, q < 8 → isI .i64 (v9 q) = true) ∧ ((∀ x ∈ (ls zr_ n1 f1), x.ok)) ∧ (n1 ≤ 1000000) ∧ (n10 ≤ 1000000) ∧ (n12 ≤ 1000000) ∧ (yr_ (ls zr_ n1 f1) ⟨(iOf v2), (iOf v3), (iOf v4), (iOf v5), (iOf v6)⟩ ⟨(iOf v7), v8, (fun q => iOf (v9 q)), (ls iOf n10 f10), (iOf v11), (ls zm_ n12 f12)⟩ ≠ 0), .tup [.nilp, .int .i64 (yr_ (ls zr_ n1 f1) ⟨(iOf v2), (iOf v3), (iOf v4), (iOf v5), (iOf v6)⟩ ⟨(iOf v7), v8, (fun q => iOf (v9 q)), (ls iOf n10 f10), (iOf v11), (ls zm_ n12 f12)⟩)], r1 ++ r10 ++ r12, []) else none
  | _, _, _ => none
 | _ => none
theorem sOnB_ok : zj_ Try.prog 89 sOnB := by
 refine ⟨zg_ (by kernel_rfl), fun args h m c v rd wr hs hm hc w0 M β h' w R hrd hwr hst => ?_⟩
 unfold sOnB at hs
 split at hs
 ·rename_i v1 v2 v3 v4 v5 v6 v7 v8 v9 v10 v11 v12
  split at hs
  ·rename_i c1 n1 f1 r1 c10 n10 f10 r10 c12 n12 f12 r12 a1 a10 a12
   obtain ⟨hb, hs⟩ := zk_ hs
   simp only [Option.some.injEq, Prod.mk.injEq] at hs
   obtain ⟨rfl, rfl, rfl, rfl⟩ := hs
   simp only [Bool.and_eq_true] at hb
   obtain ⟨⟨⟨⟨⟨⟨b2, b3⟩, b4⟩, b5⟩, b6⟩, b7⟩, b11⟩ := hb
   obtain ⟨k1, k10, k12, g1, g10, g12, g9, y1, y2, y3, y4, y5⟩ := hc
   obtain ⟨A1, p1, d1, e1, t1⟩ := zi_ R a1 k1 (fun i hi => hrd i (List.mem_append_left _ (List.mem_append_left _ hi))) (by omega)
   obtain ⟨A10, p10, d10, e10, t10⟩ := zi_ R a10 k10 (fun i hi => hrd i (List.mem_append_left _ (List.mem_append_right _ hi))) (by omega)
   obtain ⟨A12, p12, d12, e12, t12⟩ := zi_ R a12 k12 (fun i hi => hrd i (List.mem_append_right _ hi)) (by omega)
   refine yj_ (views := [⟨5, (ls zr_ n1 f1).length, prS (ls zr_ n1 f1), A1, p1⟩, ⟨1, (ls iOf n10 f10).length, i64S (ls iOf n10 f10), A10, p10⟩, ⟨3, (ls zm_ n12 f12).length, sndsS (ls zm_ n12 f12), A12, p12⟩]) (Open_bad (ls zr_ n1 f1) ⟨(iOf v2), (iOf v3), (iOf v4), (iOf v5), (iOf v6)⟩ ⟨(iOf v7), v8, (fun q => iOf (v9 q)), (ls iOf n10 f10), (iOf v11), (ls zm_ n12 f12)⟩ p1 p10 p12 y1 (by rw [zc_]; exact y2) (by rw [zc_]; exact y3) (by rw [zc_]; exact y4) y5) ?_ R hm hwr ?_ ?_ ?_
   ·intro x hx
    simp only [List.mem_cons, List.not_mem_nil, or_false] at hx
    rcases hx with rfl | rfl | rfl
    ·exact viewIns t1 e1 g1
    ·exact yf_ t10 e10 g10
    ·exact y0_ t12 e12 g12
   ·intro β1 hv
    simp only [Vd, zc_, and_true] at hv
    obtain ⟨z1, z10, z12⟩ := hv
    simp only [denL, z8_, z6_, z9_, zs_, zc_, z1, z10, z12, d1, d10, d12, zd_ b2, zd_ b3, zd_ b4, zd_ b5, zd_ b6, zd_ b7, zd_ b11, ← r8Den (β := β) (β1 := β1) g9]
   ·exact k110_
   ·exact k110_
  ·cases hs
 ·cases hs
end Go.Proofs.Ytmljmabbopkpiaa.Vm
end

import Derived.Test.YtjliakjbdcplcaaGreatR1
import Derived.Test.YtjliakjbdcplcaaGreatR40
set_option linter.unusedSimpArgs false
set_option linter.unusedVariables false
set_option maxRecDepth 100000
set_option maxHeartbeats 4000000
section
namespace Go.Proofs.YtjliakjbdcplcaaGreat.Vm
open Go.RowKit
attribute [local push_cast] prS zm_ i64S xm_ y4_ y3_ y2_ y1_ y0_ xl_ yz_ yy_ yx_ zl_ zz_ z2_ zy_ zq_ zr_ iOf
def sGoes19 : yt_ := fun args h m => match args with
 | [.agg [v1, .agg [v2, v3, v4, v5, v6], .agg [.agg [v7, v8, v9], v10, v11], v12, v13, v14], v15] => match xv_ h 5 (.tup []) v1, xv_ h 1 (.tup []) v12, xv_ h 1 (.tup []) v15 with
  | some (c1, n1, f1, r1), some (c12, n12, f12, r12), some (c15, n15, f15, r15) => bif isI .u64 v2 && isI .i64 v3 && isI .i64 v4 && isI .i64 v5 && isI .i64 v6 && isI .i64 v7 && isI .i64 v8 && isI .i64 v9 && isI .i64 v10 && isI .i64 v11 && isI .i64 v13 && isI .i64 v14 then some (c1 ∧ c12 ∧ c15 ∧ (∀ q, q < n1 → isIns (f1 q) = true) ∧ (∀ q, q < n12 → isI .i64 (f12 q) = true) ∧ (∀ q, q < n15 → isI .i64 (f15 q) = true) ∧ ((∀ x ∈ (ls zo_ n1 f1), x.ok)) ∧ ((∀ k, R64 ((ls iOf n12 f12).getD k 0))) ∧ ((∀ k, R64 ((ls iOf n15 f15).getD k 0))) ∧ (R64 (iOf v11)) ∧ (R64 (iOf v7)) ∧ (R64 (iOf v8)), .bool true, r1 ++ r12 ++ r15, []) else none
  | _, _, _ => none
 | _ => none
theorem sGoes19_ok : zh_ Tryz.prog 10 sGoes19 := by
 refine ⟨zf_ (by kernel_rfl), fun args h m c v rd wr hs hm hc w0 M β h' w R hrd hwr hst => ?_⟩
 unfold sGoes19 at hs
 split at hs
 ·rename_i v1 v2 v3 v4 v5 v6 v7 v8 v9 v10 v11 v12 v13 v14 v15
  split at hs
  ·rename_i c1 n1 f1 r1 c12 n12 f12 r12 c15 n15 f15 r15 a1 a12 a15
   obtain ⟨hb, hs⟩ := zj_ hs
   simp only [Option.some.injEq, Prod.mk.injEq] at hs
   obtain ⟨rfl, rfl, rfl, rfl⟩ := hs
   simp only [Bool.and_eq_true] at hb
   obtain ⟨⟨⟨⟨⟨⟨⟨⟨⟨⟨⟨b2, b3⟩, b4⟩, b5⟩, b6⟩, b7⟩, b8⟩, b9⟩, b10⟩, b11⟩, b13⟩, b14⟩ := hb
   obtain ⟨k1, k12, k15, g1, g12, g15, y1, y2, y3, y4, y5, y6⟩ := hc
   obtain ⟨A1, p1, d1, e1, t1⟩ := zi_ R a1 k1 (fun i hi => hrd i (List.mem_append_left _ (List.mem_append_left _ hi))) (by omega)
   obtain ⟨A12, p12, d12, e12, t12⟩ := zi_ R a12 k12 (fun i hi => hrd i (List.mem_append_left _ (List.mem_append_right _ hi))) (by omega)
   obtain ⟨A15, p15, d15, e15, t15⟩ := zi_ R a15 k15 (fun i hi => hrd i (List.mem_append_right _ hi)) (by omega)
   refine ym_ (views := [⟨5, (ls zo_ n1 f1).length, prS (ls zo_ n1 f1), A1, p1⟩, ⟨1, (ls iOf n12 f12).length, i64S (ls iOf n12 f12), A12, p12⟩, ⟨1, (ls iOf n15 f15).length, i64S (ls iOf n15 f15), A15, p15⟩]) (goes_lit (ls zo_ n1 f1) ⟨(iOf v2), (iOf v3), (iOf v4), (iOf v5), (iOf v6)⟩ (iOf v7) (iOf v8) (iOf v9) (iOf v10) (iOf v11) (iOf v13) (iOf v14) (ls iOf n12 f12) (ls iOf n15 f15) p1 p12 p15 y1 y2 y3 (by rw [zb_]; exact e15) y4 y5 y6) ?_ R hm hwr ?_ ?_ ?_
   ·intro x hx
    simp only [List.mem_cons, List.not_mem_nil, or_false] at hx
    rcases hx with rfl | rfl | rfl
    ·exact viewIns t1 e1 g1
    ·exact yi_ t12 e12 g12
    ·exact yi_ t15 e15 g15
   ·intro β1 hv
    simp only [Vd, zb_, and_true] at hv
    obtain ⟨z1, z12, z15⟩ := hv
    simp only [denL, yh_, yg_, yf_, zv_, zb_, z1, z12, z15, d1, d12, d15, zc_ b2, zc_ b3, zc_ b4, zc_ b5, zc_ b6, zc_ b7, zc_ b8, zc_ b9, zc_ b10, zc_ b11, zc_ b13, zc_ b14]
   ·exact k171_
   ·exact k171_
  ·cases hs
 ·cases hs
def cRGo : FuncId → Option yt_ := y6_ [(10, sGoes19), (11, sAw19)]
theorem cRGo_ok : ∀ f S, cRGo f = some S → zh_ Tryz.prog f S := zn_ ⟨sGoes19_ok, sAw19_ok, trivial⟩
theorem runGoes_lit (P : List Ins) (v : Evi) (t s q o y d f : Int) (cs ps : List Int) (p1 p2 p3 : Nat) (hok : ∀ x ∈ P, x.ok) (hw : ∀ k, R64 (cs.getD k 0)) (hpw : ∀ k, R64 (ps.getD k 0)) (hpc : ps.length ≤ p3) (hy : R64 y) (ht : R64 t) (hs : R64 s) : zp_ Tryz.prog 3 [.agg [.sl 1 2 [] 5 0 P.length (some p1), .agg [.int .u64 v.seed, .int .i64 v.process, .int .i64 v.ports, .int .i64 v.look, .int .i64 v.now], .agg [.agg [.int .i64 t, .int .i64 s, .int .i64 q], .int .i64 o, .int .i64 y], .sl 3 4 [] 1 0 cs.length (some p2), .int .i64 d, .int .i64 f], .sl 5 6 [] 1 0 ps.length (some p3)] [.gone, .gone, .ro (.arr P.length 5 (prS P)), .gone, .ro (.arr cs.length 1 (i64S cs)), .gone, .ro (.arr ps.length 1 (i64S ps))] (.bool true) [.gone] := by
 refine ze_ (fn := Tryz.f3) 7 11 0 rfl rfl rfl rfl rfl (by simp only [zd_, Stable, hp, i64S, prS, yr_, zm_, sndS, evS, sr, yn_, nilS, cRf, sRf, trO, prT, cB, sB, prO, HB.stable]; simp [HB.born]) rfl fun w0 M E hro => ?_
 repeat' (first | refine Ctl.h ?_ | ((with_reducible intro hif); first | (focus (cases hif; done)) | ((try simp only [JH] at hif); try (exfalso; omega))) | ((with_reducible first | apply J22 cRGo_ok za_ | apply J23 fol cRGo_ok za_ | apply J24); (·rfl); (· (simp only [push_cast, ↓JP, Nat.reduceAdd, Nat.reduceEqDiff, Nat.reduceLT, Nat.reduceMul, Nat.reduceLeDiff, reduceCtorEq, reduceIte, ↓JK, JE, cRGo, sGoes19, sAw19, iOf, zq_, inR, inN]; rfl)); (try kernel_rfl); (try (focus (first | exact True.intro | ((try simp only [JE, iOf, zb_, yj_]); (repeat' (first | exact True.intro | exact hok | exact hw | exact hpw | assumption | apply And.intro | rfl | omega | decide | intro _)); done) | ((try simp only [JS, implies_true, forall_const, yd_, z9_, kndOf, inR, inN]); (repeat' (first | assumption | exact True.intro | omega | apply And.intro)); done))))) | fail)
 apply At.endsRet za_ (fn := Tryz.f3) (rs := [.tmp 4]) Anc.refl hro (lb_ rfl) rfl
 ·exact yq_
 ·exact ys_
 ·exact k6_
 ·rfl
 ·exact k171_
 ·exact zx_
 ·exact fun β => rfl
 ·exact k171_
end Go.Proofs.YtjliakjbdcplcaaGreat.Vm
end

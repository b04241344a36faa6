import Derived.Test.YtmljmabbopkpiaaM1
import Derived.Test.YtmljmabbopkpiaaM8
import Derived.Test.YtmljmabbopkpiaaM16
import Derived.Test.YtmljmabbopkpiaaProg
set_option linter.unusedSimpArgs false
set_option linter.unusedVariables false
set_option maxRecDepth 100000
set_option maxHeartbeats 4000000
section
open Go.Proofs.Ytmljmabbopkpiaa.Vm Go.RowKit
section
namespace Go.Proofs.Ytmljmabbopkpiaa.Vm
open Go.RowKit
def u64S (l : List Int) : Nat → SV := fun q => .int .u64 (l.getD q 0)
theorem u64S_stable {h : HM} {l : List Int} (q : Nat) : zb_ h (u64S l q) := trivial
def uwV (l : List Int) : List Value := l.map fun x => .int .u64 x
theorem elems_u64 {β : Env} {n : Nat} {f : Nat → SV} (hf : ∀ q, q < n → isI .u64 (f q) = true) : zw_ β 1 n f = uwV (ls iOf n f) := by
 rw [elems_ls (cells := fun x => [.int .u64 x]) isI_cl (fun _ => rfl) hf]
 unfold uwV
 rw [List.flatMap_def]
 induction ls iOf n f with
 | nil => rfl
 | cons x l ih => simp [ih]
theorem elems_u64S {β : Env} (l : List Int) : zw_ β 1 l.length (u64S l) = uwV l := by
 rw [elems_u64 (fun q _ => rfl), show ls iOf l.length (u64S l) = l from ls_of (g := iOf) (e := fun x => .int .u64 x) (fun _ => rfl) l 0]
theorem viewU64 {w : World} {β : Env} {A : Option Addr} {n cap : Nat} {f : Nat → SV} (hr : yx_ w w.heap.size 1 A n (zw_ β 1 n f)) (hn : n ≤ cap) (hf : ∀ q, q < n → isI .u64 (f q) = true) : (View.mk 1 (ls iOf n f).length (u64S (ls iOf n f)) A cap).Ok w :=
 ⟨fun β' => by rw [elems_u64S, zc_]; rwa [elems_u64 hf] at hr, by rw [zc_]; exact hn, fun h q => u64S_stable q, Nat.succ_pos _⟩
def sRFold : yp_ := fun args _ _ => match args with
 | [a, b] => bif isI .u64 a && isI .i64 b then some ((0 ≤ iOf a ∧ iOf a < 18446744073709551616) ∧ 0 ≤ iOf b ∧ iOf b ≤ 64, .int .u64 (foldI (iOf a) (iOf b)), [], []) else none
 | _ => none
theorem sRFold_ok : zj_ Try.prog 174 sRFold := by
 refine ⟨zi_ (by kernel_rfl), fun args h m c v rd wr hs hm hc w0 M β h' w R hrd hwr hst => ?_⟩
 unfold sRFold at hs
 split at hs
 ·rename_i a b
  obtain ⟨hb, hs⟩ := zl_ hs
  simp only [Option.some.injEq, Prod.mk.injEq] at hs
  obtain ⟨rfl, rfl, rfl, rfl⟩ := hs
  simp only [Bool.and_eq_true] at hb
  obtain ⟨b1, b2⟩ := hb
  obtain ⟨⟨c1, c2⟩, c3, c4⟩ := hc
  simp only [denL, zd_ b1, zd_ b2]
  exact (rfold_c (iOf a) (iOf b) w c1 c2 c3 c4).mono fun e w' he => post_read R trivial rfl he.1 he.2
 ·cases hs
def cMx : FuncId → Option yp_ := yy_ [(174, sRFold)]
theorem cMx_ok : ∀ f S, cMx f = some S → zj_ Try.prog f S := zq_ ⟨sRFold_ok, trivial⟩
theorem mix_lit (x : Int) (h0 : 0 ≤ x) (h1 : x < 18446744073709551616) : zp_ Try.prog 151 [.int .u64 x] [.gone] (.int .u64 (mixI x)) [.gone] := by
 obtain ⟨m1, hm1⟩ : ∃ m, IntKind.u64.wrap (foldI x 30 * 13787848793156543929) = m := ⟨_, rfl⟩
 obtain ⟨m2, hm2⟩ : ∃ m, IntKind.u64.wrap (foldI m1 27 * 10723151780598845931) = m := ⟨_, rfl⟩
 have e : mixI x = foldI m2 31 := by rw [mixI, hm1, hm2]
 have b1 := u64_bd (foldI x 30 * 13787848793156543929)
 have b2 := u64_bd (foldI m1 27 * 10723151780598845931)
 rw [hm1] at b1
 rw [hm2] at b2
 rw [e]
 refine zf_ (fn := Try.f151) 1 11 0 rfl rfl rfl rfl rfl u5_ rfl fun w0 M E hro => ?_
 repeat' (first | refine Ctl.h ?_ | ((with_reducible intro hif); first | (focus (cases hif; done)) | ((try simp only [JH] at hif); try (exfalso; omega))) | ((with_reducible first | apply J22 cMx_ok za_ | apply J23 fol cMx_ok za_ | apply J24); (·rfl); (· (simp only [push_cast, ↓JP, Nat.reduceAdd, Nat.reduceEqDiff, Nat.reduceLT, Nat.reduceMul, Nat.reduceLeDiff, reduceCtorEq, reduceIte, cMx, sRFold, ya_, z9_, iOf, Int.cast_ofNat_Int, hm1, hm2, inR, inN]; rfl)); (try kernel_rfl); try exact k25_) | fail)
 apply At.endsRet za_ (fn := Try.f151) (rs := [.tmp 2]) Anc.refl hro (lb_ rfl) rfl
 ·exact k3_
 ·exact k4_
 ·exact k5_
 ·rfl
 ·exact k54_
 ·exact k7_
 ·exact fun β => rfl
 ·exact k54_
def sRMix : yp_ := fun args h m => match args with
 | [v1] => bif isI .u64 v1 then some ((0 ≤ (iOf v1)) ∧ ((iOf v1) < 18446744073709551616), .int .u64 (mixI (iOf v1)), [], []) else none
 | _ => none
theorem sRMix_ok : zj_ Try.prog 151 sRMix := by
 refine ⟨zi_ (by kernel_rfl), fun args h m c v rd wr hs hm hc w0 M β h' w R hrd hwr hst => ?_⟩
 unfold sRMix at hs
 split at hs
 ·rename_i v1
  obtain ⟨hb, hs⟩ := zl_ hs
  simp only [Option.some.injEq, Prod.mk.injEq] at hs
  obtain ⟨rfl, rfl, rfl, rfl⟩ := hs
  have b1 := hb
  obtain ⟨y1, y2⟩ := hc
  refine yl_ (views := []) (mix_lit (iOf v1) y1 y2) ?_ R hm hwr ?_ ?_ ?_
  ·intro x hx; cases hx
  ·exact d27_
  ·exact k54_
  ·exact k54_
 ·cases hs
def jn1 (x : Int) : Int := mixI (IntKind.u64.wrap (IntKind.u64.wrap (11400714819323198485 + x) + IntKind.u64.wrap (0 * 11400714819323198485)))
def jn2 (x y : Int) : Int := mixI (IntKind.u64.wrap (IntKind.u64.wrap (11400714819323198485 + y) + IntKind.u64.wrap (jn1 x * 11400714819323198485)))
theorem jn2_key (x y : Int) : jn2 x y = keyI x y := by
 have e : jn1 x = mixI (IntKind.u64.wrap (IntKind.u64.wrap (11400714819323198485 + x))) := by
  rw [jn1]
  simp only [wrapU64]
  congr 1
  omega
 rw [jn2, e]; rfl
theorem ls1U (f : Nat → SV) : ls iOf 1 f = [iOf (f 0)] := rfl
theorem ls2U (f : Nat → SV) : ls iOf 2 f = [iOf (f 0), iOf (f 1)] := rfl
theorem ls0U (f : Nat → SV) : ls iOf 0 f = [] := rfl
theorem join0_lit (p1 : Nat) : zp_ Try.prog 175 [.sl 1 2 [] 1 0 0 (some p1)] [.gone, .gone, .ro (.arr 0 1 (u64S []))] (.int .u64 0) [.gone] := by
 refine zf_ (fn := Try.f175) 3 22 0 rfl rfl rfl rfl rfl u5_ rfl fun w0 M E hro => ?_
 repeat' (first | refine Ctl.h ?_ | ((with_reducible intro hif); first | (focus (cases hif; done)) | ((try simp only [JH] at hif); try (exfalso; omega))) | ((with_reducible first | apply J22 cMx_ok za_ | apply J23 fol cMx_ok za_ | apply J24); (·rfl); (· (simp only [push_cast, ↓JP, Nat.reduceAdd, Nat.reduceEqDiff, Nat.reduceLT, Nat.reduceMul, Nat.reduceLeDiff, reduceCtorEq, reduceIte, inR, inN]; rfl)); (try kernel_rfl); try exact k26_) | fail)
 apply At.endsRet za_ (fn := Try.f175) (rs := [.tmp 2]) Anc.refl hro (lb_ rfl) rfl
 ·exact k3_
 ·exact k4_
 ·exact k5_
 ·rfl
 ·exact k54_
 ·exact k7_
 ·exact fun β => rfl
 ·exact k54_
theorem join0_ok (l : List Int) (p1 : Nat) (h : l.length = 0) : zp_ Try.prog 175 [.sl 1 2 [] 1 0 l.length (some p1)] [.gone, .gone, .ro (.arr l.length 1 (u64S l))] (.int .u64 0) [.gone] := by
 obtain rfl := List.length_eq_zero_iff.mp h
 exact join0_lit p1
def sRJ0 : yp_ := fun args h m => match args with
 | [v1] => match y6_ h 1 (.tup []) v1 with
  | some (c1, n1, f1, r1) => some (c1 ∧ (∀ q, q < n1 → isI .u64 (f1 q) = true) ∧ ((ls iOf n1 f1).length = 0), .int .u64 0, r1, [])
  | _ => none
 | _ => none
theorem sRJ0_ok : zj_ Try.prog 175 sRJ0 := by
 refine ⟨zi_ (by kernel_rfl), fun args h m c v rd wr hs hm hc w0 M β h' w R hrd hwr hst => ?_⟩
 unfold sRJ0 at hs
 split at hs
 ·rename_i v1
  split at hs
  ·rename_i c1 n1 f1 r1 a1
   simp only [Option.some.injEq, Prod.mk.injEq] at hs
   obtain ⟨rfl, rfl, rfl, rfl⟩ := hs
   obtain ⟨k1, g1, y1⟩ := hc
   obtain ⟨A1, p1, d1, e1, t1⟩ := zg_ R a1 k1 (fun i hi => hrd i hi) (by omega)
   refine yl_ (views := [⟨1, (ls iOf n1 f1).length, u64S (ls iOf n1 f1), A1, p1⟩]) (join0_ok (ls iOf n1 f1) p1 y1) ?_ R hm hwr ?_ ?_ ?_
   ·exact d34_
   ·exact d30_
   ·exact k54_
   ·exact k54_
  ·cases hs
 ·cases hs
def cJ0 : FuncId → Option yp_ := yy_ [(151, sRMix), (175, sRJ0)]
theorem cJ0_ok : ∀ f S, cJ0 f = some S → zj_ Try.prog f S := zq_ ⟨sRMix_ok, sRJ0_ok, trivial⟩
theorem join1_lit (x : Int) (p1 : Nat) : zp_ Try.prog 175 [.sl 1 2 [] 1 0 1 (some p1)] [.gone, .gone, .ro (.arr 1 1 (u64S [x]))] (.int .u64 (jn1 x)) [.gone] := by
 obtain ⟨m, hm⟩ : ∃ m, IntKind.u64.wrap (IntKind.u64.wrap (11400714819323198485 + x) + IntKind.u64.wrap (0 * 11400714819323198485)) = m := ⟨_, rfl⟩
 have b1 := u64_bd (IntKind.u64.wrap (11400714819323198485 + x) + IntKind.u64.wrap (0 * 11400714819323198485))
 rw [hm] at b1
 rw [jn1, hm]
 refine zf_ (fn := Try.f175) 3 22 0 rfl rfl rfl rfl rfl u5_ rfl fun w0 M E hro => ?_
 repeat' (first | refine Ctl.h ?_ | ((with_reducible intro hif); first | (focus (cases hif; done)) | ((try simp only [JH] at hif); try (exfalso; omega))) | ((with_reducible first | apply J22 cJ0_ok za_ | apply J23 fol cJ0_ok za_ | apply J24); (·rfl); (· (simp only [push_cast, ↓JP, Nat.reduceAdd, Nat.reduceEqDiff, Nat.reduceLT, Nat.reduceMul, Nat.reduceLeDiff, reduceCtorEq, reduceIte, cJ0, sRMix, sRJ0, ya_, z9_, iOf, u64S, ls0U, ls1U, Int.cast_ofNat_Int, Int.reduceSub, Int.reduceToNat, Nat.sub_zero, Nat.sub_self, List.getD_cons_zero, List.getD_cons_succ, hm, inR, inN]; rfl)); (try kernel_rfl); try exact k55_) | fail)
 apply At.endsRet za_ (fn := Try.f175) (rs := [.tmp 2]) Anc.refl hro (lb_ rfl) rfl
 ·exact k3_
 ·exact k4_
 ·exact k5_
 ·rfl
 ·exact k54_
 ·exact k7_
 ·exact fun β => rfl
 ·exact k54_
theorem join1_ok (l : List Int) (p1 : Nat) (h : l.length = 1) : zp_ Try.prog 175 [.sl 1 2 [] 1 0 l.length (some p1)] [.gone, .gone, .ro (.arr l.length 1 (u64S l))] (.int .u64 (jn1 (l.getD 0 0))) [.gone] := by
 obtain ⟨x, rfl⟩ := List.length_eq_one_iff.mp h
 exact join1_lit x p1
def sRJ1 : yp_ := fun args h m => match args with
 | [v1] => match y6_ h 1 (.tup []) v1 with
  | some (c1, n1, f1, r1) => some (c1 ∧ (∀ q, q < n1 → isI .u64 (f1 q) = true) ∧ ((ls iOf n1 f1).length = 1), .int .u64 (jn1 ((ls iOf n1 f1).getD 0 0)), r1, [])
  | _ => none
 | _ => none
theorem sRJ1_ok : zj_ Try.prog 175 sRJ1 := by
 refine ⟨zi_ (by kernel_rfl), fun args h m c v rd wr hs hm hc w0 M β h' w R hrd hwr hst => ?_⟩
 unfold sRJ1 at hs
 split at hs
 ·rename_i v1
  split at hs
  ·rename_i c1 n1 f1 r1 a1
   simp only [Option.some.injEq, Prod.mk.injEq] at hs
   obtain ⟨rfl, rfl, rfl, rfl⟩ := hs
   obtain ⟨k1, g1, y1⟩ := hc
   obtain ⟨A1, p1, d1, e1, t1⟩ := zg_ R a1 k1 (fun i hi => hrd i hi) (by omega)
   refine yl_ (views := [⟨1, (ls iOf n1 f1).length, u64S (ls iOf n1 f1), A1, p1⟩]) (join1_ok (ls iOf n1 f1) p1 y1) ?_ R hm hwr ?_ ?_ ?_
   ·exact d34_
   ·exact d30_
   ·exact k54_
   ·exact k54_
  ·cases hs
 ·cases hs
def cJ1 : FuncId → Option yp_ := yy_ [(151, sRMix), (175, sRJ1)]
theorem cJ1_ok : ∀ f S, cJ1 f = some S → zj_ Try.prog f S := zq_ ⟨sRMix_ok, sRJ1_ok, trivial⟩
theorem join2_lit (x y : Int) (p1 : Nat) : zp_ Try.prog 175 [.sl 1 2 [] 1 0 2 (some p1)] [.gone, .gone, .ro (.arr 2 1 (u64S [x, y]))] (.int .u64 (jn2 x y)) [.gone] := by
 obtain ⟨m, hm⟩ : ∃ m, IntKind.u64.wrap (IntKind.u64.wrap (11400714819323198485 + y) + IntKind.u64.wrap (jn1 x * 11400714819323198485)) = m := ⟨_, rfl⟩
 have b1 := u64_bd (IntKind.u64.wrap (11400714819323198485 + y) + IntKind.u64.wrap (jn1 x * 11400714819323198485))
 rw [hm] at b1
 rw [jn2, hm]
 refine zf_ (fn := Try.f175) 3 22 0 rfl rfl rfl rfl rfl u5_ rfl fun w0 M E hro => ?_
 repeat' (first | refine Ctl.h ?_ | ((with_reducible intro hif); first | (focus (cases hif; done)) | ((try simp only [JH] at hif); try (exfalso; omega))) | ((with_reducible first | apply J22 cJ1_ok za_ | apply J23 fol cJ1_ok za_ | apply J24); (·rfl); (· (simp only [push_cast, ↓JP, Nat.reduceAdd, Nat.reduceEqDiff, Nat.reduceLT, Nat.reduceMul, Nat.reduceLeDiff, reduceCtorEq, reduceIte, cJ1, sRMix, sRJ1, ya_, z9_, iOf, u64S, ls0U, ls1U, Int.cast_ofNat_Int, Int.reduceSub, Int.reduceToNat, Nat.sub_zero, Nat.sub_self, List.getD_cons_zero, List.getD_cons_succ, hm, inR, inN]; rfl)); (try kernel_rfl); try exact k55_) | fail)
 apply At.endsRet za_ (fn := Try.f175) (rs := [.tmp 2]) Anc.refl hro (lb_ rfl) rfl
 ·exact k3_
 ·exact k4_
 ·exact k5_
 ·rfl
 ·exact k54_
 ·exact k7_
 ·exact fun β => rfl
 ·exact k54_
theorem join2_ok (l : List Int) (p1 : Nat) (h : l.length = 2) : zp_ Try.prog 175 [.sl 1 2 [] 1 0 l.length (some p1)] [.gone, .gone, .ro (.arr l.length 1 (u64S l))] (.int .u64 (jn2 (l.getD 0 0) (l.getD 1 0))) [.gone] := by
 match l, h with
 | [x, y], _ => exact join2_lit x y p1
def sRJ2 : yp_ := fun args h m => match args with
 | [v1] => match y6_ h 1 (.tup []) v1 with
  | some (c1, n1, f1, r1) => some (c1 ∧ (∀ q, q < n1 → isI .u64 (f1 q) = true) ∧ ((ls iOf n1 f1).length = 2), .int .u64 (jn2 ((ls iOf n1 f1).getD 0 0) ((ls iOf n1 f1).getD 1 0)), r1, [])
  | _ => none
 | _ => none
theorem sRJ2_ok : zj_ Try.prog 175 sRJ2 := by
 refine ⟨zi_ (by kernel_rfl), fun args h m c v rd wr hs hm hc w0 M β h' w R hrd hwr hst => ?_⟩
 unfold sRJ2 at hs
 split at hs
 ·rename_i v1
  split at hs
  ·rename_i c1 n1 f1 r1 a1
   simp only [Option.some.injEq, Prod.mk.injEq] at hs
   obtain ⟨rfl, rfl, rfl, rfl⟩ := hs
   obtain ⟨k1, g1, y1⟩ := hc
   obtain ⟨A1, p1, d1, e1, t1⟩ := zg_ R a1 k1 (fun i hi => hrd i hi) (by omega)
   refine yl_ (views := [⟨1, (ls iOf n1 f1).length, u64S (ls iOf n1 f1), A1, p1⟩]) (join2_ok (ls iOf n1 f1) p1 y1) ?_ R hm hwr ?_ ?_ ?_
   ·exact d34_
   ·exact d30_
   ·exact k54_
   ·exact k54_
  ·cases hs
 ·cases hs
def cKy : FuncId → Option yp_ := yy_ [(175, sRJ2)]
theorem cKy_ok : ∀ f S, cKy f = some S → zj_ Try.prog f S := zq_ ⟨sRJ2_ok, trivial⟩
theorem rkey_lit (s p : Int) (h0 : 0 ≤ p) (h1 : p ≤ 65536) : zp_ Try.prog 152 [.int .u64 s, .int .i64 p] [.gone] (.int .u64 (keyI s p)) [.gone] := by
 rw [← jn2_key]
 refine zf_ (fn := Try.f152) 1 10 0 rfl rfl rfl rfl rfl u5_ rfl fun w0 M E hro => ?_
 repeat' (first | refine Ctl.h ?_ | ((with_reducible intro hif); first | (focus (cases hif; done)) | ((try simp only [JH] at hif); try (exfalso; omega))) | ((with_reducible first | apply J22 cKy_ok za_ | apply J23 fol cKy_ok za_ | apply J24); (·rfl); (· (simp only [push_cast, ↓JP, Nat.reduceAdd, Nat.reduceEqDiff, Nat.reduceLT, Nat.reduceMul, Nat.reduceLeDiff, reduceCtorEq, reduceIte, cKy, sRJ2, ya_, z9_, iOf, ls2U, Int.cast_ofNat_Int, inR, inN, List.all_cons, List.all_nil]; rfl)); (try kernel_rfl); (try (focus (first | exact True.intro | ((repeat' (first | exact True.intro | apply And.intro | rfl | omega | decide | (intro q hq; match q, hq with | 0, _ => rfl | 1, _ => rfl))); done) | ((try simp only [JS, implies_true, forall_const, yc_, z6_, kndOf, inR, inN]); (repeat' (first | assumption | exact True.intro | omega | apply And.intro)); done))))) | fail)
 apply At.endsRet za_ (fn := Try.f152) (rs := [.tmp 4]) Anc.refl hro (lb_ rfl) rfl
 ·exact k3_
 ·exact k4_
 ·exact k5_
 ·rfl
 ·exact k54_
 ·exact k7_
 ·exact fun β => rfl
 ·exact k54_
def sRKey : yp_ := fun args h m => match args with
 | [v1, v2] => bif isI .u64 v1 && isI .i64 v2 then some ((0 ≤ (iOf v2)) ∧ ((iOf v2) ≤ 65536), .int .u64 (keyI (iOf v1) (iOf v2)), [], []) else none
 | _ => none
theorem sRKey_ok : zj_ Try.prog 152 sRKey := by
 refine ⟨zi_ (by kernel_rfl), fun args h m c v rd wr hs hm hc w0 M β h' w R hrd hwr hst => ?_⟩
 unfold sRKey at hs
 split at hs
 ·rename_i v1 v2
  obtain ⟨hb, hs⟩ := zl_ hs
  simp only [Option.some.injEq, Prod.mk.injEq] at hs
  obtain ⟨rfl, rfl, rfl, rfl⟩ := hs
  simp only [Bool.and_eq_true] at hb
  obtain ⟨b1, b2⟩ := hb
  obtain ⟨y1, y2⟩ := hc
  refine yl_ (views := []) (rkey_lit (iOf v1) (iOf v2) y1 y2) ?_ R hm hwr ?_ ?_ ?_
  ·intro x hx; cases hx
  ·intro β1 hv
   simp only [denL, z4_, z3_, yd_, zs_, zc_, zd_ b1, zd_ b2]
  ·exact k54_
  ·exact k54_
 ·cases hs
def cVa : FuncId → Option yp_ := yy_ [(152, sRKey), (151, sRMix)]
theorem cVa_ok : ∀ f S, cVa f = some S → zj_ Try.prog f S := zq_ ⟨sRKey_ok, sRMix_ok, trivial⟩
theorem rval_lit (s p i : Int) (h0 : 0 ≤ p) (h1 : p ≤ 65536) (h2 : 0 ≤ i) (h3 : i ≤ 281474976710656) : zp_ Try.prog 130 [.int .u64 s, .int .i64 p, .int .i64 i] [.gone] (.int .u64 (valueI s p i)) [.gone] := by
 obtain ⟨m, hm⟩ : ∃ m, IntKind.u64.wrap (keyI s p + IntKind.u64.wrap ((i + 1) * 11400714819323198485)) = m := ⟨_, rfl⟩
 have b1 := u64_bd (keyI s p + IntKind.u64.wrap ((i + 1) * 11400714819323198485))
 rw [hm] at b1
 have e : valueI s p i = mixI m := by
  rw [valueI, atI, ← hm]
  have e1 : IntKind.u64.wrap (IntKind.u64.wrap i + 1) = i + 1 := by simp only [wrapU64]; omega
  rw [e1]
 rw [e]
 refine zf_ (fn := Try.f130) 1 16 0 rfl rfl rfl rfl rfl u5_ rfl fun w0 M E hro => ?_
 repeat' (first | refine Ctl.h ?_ | ((with_reducible intro hif); first | (focus (cases hif; done)) | ((try simp only [JH] at hif); try (exfalso; omega))) | ((with_reducible first | apply J22 cVa_ok za_ | apply J23 fol cVa_ok za_ | apply J24); (·rfl); (· (simp only [push_cast, ↓JP, Nat.reduceAdd, Nat.reduceEqDiff, Nat.reduceLT, Nat.reduceMul, Nat.reduceLeDiff, reduceCtorEq, reduceIte, cVa, sRKey, sRMix, ya_, z9_, iOf, nat_one_i, Int.cast_ofNat_Int, hm, inR, inN]; rfl)); (try kernel_rfl); try exact k55_) | fail)
 apply At.endsRet za_ (fn := Try.f130) (rs := [.tmp 6]) Anc.refl hro (lb_ rfl) rfl
 ·exact k3_
 ·exact k4_
 ·exact k5_
 ·rfl
 ·exact k54_
 ·exact k7_
 ·exact fun β => rfl
 ·exact k54_
def sRVal : yp_ := fun args h m => match args with
 | [v1, v2, v3] => bif isI .u64 v1 && isI .i64 v2 && isI .i64 v3 then some ((0 ≤ (iOf v2)) ∧ ((iOf v2) ≤ 65536) ∧ (0 ≤ (iOf v3)) ∧ ((iOf v3) ≤ 281474976710656), .int .u64 (valueI (iOf v1) (iOf v2) (iOf v3)), [], []) else none
 | _ => none
theorem sRVal_ok : zj_ Try.prog 130 sRVal := by
 refine ⟨zi_ (by kernel_rfl), fun args h m c v rd wr hs hm hc w0 M β h' w R hrd hwr hst => ?_⟩
 unfold sRVal at hs
 split at hs
 ·rename_i v1 v2 v3
  obtain ⟨hb, hs⟩ := zl_ hs
  simp only [Option.some.injEq, Prod.mk.injEq] at hs
  obtain ⟨rfl, rfl, rfl, rfl⟩ := hs
  simp only [Bool.and_eq_true] at hb
  obtain ⟨⟨b1, b2⟩, b3⟩ := hb
  obtain ⟨y1, y2, y3, y4⟩ := hc
  refine yl_ (views := []) (rval_lit (iOf v1) (iOf v2) (iOf v3) y1 y2 y3 y4) ?_ R hm hwr ?_ ?_ ?_
  ·intro x hx; cases hx
  ·intro β1 hv
   simp only [denL, z4_, z3_, yd_, zs_, zc_, zd_ b1, zd_ b2, zd_ b3]
  ·exact k54_
  ·exact k54_
 ·cases hs
def sbV (v n j : Nat) : Nat := v % 2 ^ j * n / 2 ^ j
theorem sbV_zero (v n : Nat) : sbV v n 0 = 0 := by simp [sbV, Nat.mod_one]
theorem sbV_next (v n j : Nat) : sbV v n (j + 1) = (sbV v n j + (if v.testBit j then n else 0)) / 2 := by
 have hp : 0 < 2 ^ j := Nat.pow_pos (by decide)
 unfold sbV
 rw [mod_next, Nat.add_mul, Nat.pow_succ, ← Nat.div_div_eq_div_mul]
 cases v.testBit j
 ·simp
 ·simp only [if_true]
  rw [Nat.add_mul_div_left _ _ hp]
theorem sbV_lt (v n j : Nat) (hn : 0 < n) : sbV v n j < n := by
 have hp : 0 < 2 ^ j := Nat.pow_pos (by decide)
 unfold sbV
 rw [Nat.div_lt_iff_lt_mul hp, Nat.mul_comm n]
 exact Nat.mul_lt_mul_of_pos_right (Nat.mod_lt _ hp) hn
theorem below_lit (v n : Nat) (hv : v < 18446744073709551616) (hn0 : 0 < n) (hn : n ≤ 9223372036854775807) : zp_ Try.prog 129 [.nat .u64 v, .nat .i64 n] [.gone] (.nat .i64 (sbV v n 64)) [.gone] := by
 have hz0 := sbV_zero v n
 refine zf_ (fn := Try.f129) 1 24 0 rfl rfl rfl rfl rfl (by simp only [ze_, zb_, hp, zo_]; simp [HB.born]) rfl fun w0 M E hro => ?_
 repeat' (first | refine Ctl.h ?_ | ((with_reducible intro hif); first | (focus (cases hif; done)) | ((try simp only [JH] at hif); try (exfalso; omega))) | ((with_reducible first | apply J22 zx_ za_ | apply J23 fol zx_ za_ | apply J24); (·rfl); (· exact k16_); (try kernel_rfl); try exact xi_) | fail)
 refine WF.loopAt (fun (j : Nat) => j ≤ 64) (fun (j : Nat) => [(0, .nat .u64 v), (1, .nat .i64 n), (5, .nat .u64 (sbV v n j)), (6, .nat .i64 j)]) (fun (j : Nat) => [.gone]) (fun (j : Nat) => 64 - j) 0 (Nat.zero_le _) ?_ ?_ rfl ?_ ?_ rfl ?_
 ·exact k23_
 ·exact k5_
 ·exact k52_
 ·exact k52_
 intro j hj
 have hlt := sbV_lt v n j hn0
 by_cases hjl : j < 64
 ·have hmn := sbV_next v n j
  have hb1 := bit_div v j
  have hm1 : min j 64 = j := by omega
  cases hc : v.testBit j
  all_goals
   rw [hc] at hmn hb1
   simp only [b2, if_true, Bool.false_eq_true, if_false, Nat.add_zero] at hmn hb1
   repeat' (first | refine Ctl.h ?_ | ((with_reducible intro hif); first | (focus (cases hif; done)) | ((try simp only [JH] at hif); try (exfalso; omega))) | ((with_reducible first | apply J22 zx_ za_ | apply J23 fol zx_ za_ | apply J24); (·rfl); (· (simp only [push_cast, ↓JP, Nat.reduceAdd, Nat.reduceEqDiff, Nat.reduceLT, Nat.reduceMul, Nat.reduceLeDiff, reduceCtorEq, reduceIte, hjl, hm1, hb1, inR, inN, IntKind.bits]; rfl)); (try kernel_rfl); try exact k27_) | fail)
   refine At.next (j + 1) ?_ ?_ ?_ rfl ?_ ?_ rfl
   ·exact ⟨by omega, by omega⟩
   ·exact k53_
   ·exact k5_
   ·exact k52_
   ·exact k52_
 ·obtain rfl : j = 64 := by omega
  repeat' (first | refine Ctl.h ?_ | ((with_reducible intro hif); first | (focus (cases hif; done)) | ((try simp only [JH] at hif); try (exfalso; omega))) | ((with_reducible first | apply J22 zx_ za_ | apply J23 fol zx_ za_ | apply J24); (·rfl); (· (simp only [push_cast, ↓JP, Nat.reduceAdd, Nat.reduceEqDiff, Nat.reduceLT, Nat.reduceMul, Nat.reduceLeDiff, reduceCtorEq, reduceIte, hjl, inR, inN]; rfl)); (try kernel_rfl); (try (focus (first | exact True.intro | ((repeat' (first | exact True.intro | apply And.intro | omega | decide | (simp only [inN]; omega))); done) | ((try simp only [JS, implies_true, forall_const, yc_, z6_, kndOf, inR, inN]); (repeat' (first | assumption | exact True.intro | omega | apply And.intro)); done))))) | fail)
  apply At.endsRet za_ (fn := Try.f129) (rs := [.tmp 4]) Anc.refl hro (lb_ rfl) rfl
  ·exact k3_
  ·exact k4_
  ·exact k5_
  ·rfl
  ·exact k52_
  ·exact k7_
  ·exact fun β => rfl
  ·exact k52_
theorem rbelow_ok (v n : Int) (h0 : 0 ≤ v) (h1 : v < 18446744073709551616) (h2 : 1 ≤ n) (h3 : n ≤ 9223372036854775807) : zp_ Try.prog 129 [.int .u64 v, .int .i64 n] [.gone] (.int .i64 (belowI v n)) [.gone] := by
 obtain ⟨V, rfl⟩ : ∃ V : Nat, v = (V : Int) := ⟨v.toNat, by omega⟩
 obtain ⟨k, rfl⟩ : ∃ k : Nat, n = (k : Int) := ⟨n.toNat, by omega⟩
 have e : belowI (V : Int) (k : Int) = ((sbV V k 64 : Nat) : Int) := by
  have hw : IntKind.u64.wrap (k : Int) = (k : Int) := by rw [wrapU64]; omega
  have hs : sbV V k 64 = V * k / 18446744073709551616 := by
   have h64 : (2 : Nat) ^ 64 = 18446744073709551616 := by decide
   unfold sbV
   rw [h64, Nat.mod_eq_of_lt (by omega)]
  have hl := sbV_lt V k 64 (by omega)
  have hu : upperI (V : Int) (k : Int) = ((sbV V k 64 : Nat) : Int) := by
   rw [upper_eq _ _ (by omega) (by omega) (by omega) (by omega), hs]
   simp
  rw [belowI, hw, hu, wrap64]
  omega
 rw [e]
 exact below_lit V k (by omega) (by omega) (by omega)
def sRBel : yp_ := fun args h m => match args with
 | [v1, v2] => bif isI .u64 v1 && isI .i64 v2 then some ((0 ≤ (iOf v1)) ∧ ((iOf v1) < 18446744073709551616) ∧ (1 ≤ (iOf v2)) ∧ ((iOf v2) ≤ 9223372036854775807), .int .i64 (belowI (iOf v1) (iOf v2)), [], []) else none
 | _ => none
theorem sRBel_ok : zj_ Try.prog 129 sRBel := by
 refine ⟨zi_ (by kernel_rfl), fun args h m c v rd wr hs hm hc w0 M β h' w R hrd hwr hst => ?_⟩
 unfold sRBel at hs
 split at hs
 ·rename_i v1 v2
  obtain ⟨hb, hs⟩ := zl_ hs
  simp only [Option.some.injEq, Prod.mk.injEq] at hs
  obtain ⟨rfl, rfl, rfl, rfl⟩ := hs
  simp only [Bool.and_eq_true] at hb
  obtain ⟨b1, b2⟩ := hb
  obtain ⟨y1, y2, y3, y4⟩ := hc
  refine yl_ (views := []) (rbelow_ok (iOf v1) (iOf v2) y1 y2 y3 y4) ?_ R hm hwr ?_ ?_ ?_
  ·intro x hx; cases hx
  ·intro β1 hv
   simp only [denL, z4_, z3_, yd_, zs_, zc_, zd_ b1, zd_ b2]
  ·exact k52_
  ·exact k52_
 ·cases hs
end Go.Proofs.Ytmljmabbopkpiaa.Vm
end
end
section
namespace Go.Proofs.Ytmljmabbopkpiaa.Vm
open Go.RowKit
def oldB (ρ : Nat → Nat) : List HB → List HB → List Nat → List (Nat × HB)
 | [], _, _ => []
 | b :: L0, L1, l => match L1, l with
  | c :: L1, j :: l => bif b.mine then (j, c.ren ρ) :: oldB ρ L0 L1 l else oldB ρ L0 L1 l
  | _, _ => []
def mrgL : List HB → List HB → List HB
 | [], L1 => L1
 | b :: L0, L1 => match L1 with
  | c :: L1 => (bif b.mine then c else b) :: mrgL L0 L1
  | [] => []
def noRo2 : List HB → List HB → Bool
 | [], L1 => L1.all fun c => !c.isRo
 | b :: L0, L1 => match L1 with
  | c :: L1 => (!b.mine || (c.born && !c.isRo)) && noRo2 L0 L1
  | [] => true
theorem hp_cons (b : HB) (L : List HB) (i : Nat) : hp (b :: L) (i + 1) = hp L i := by unfold hp; simp
theorem hp_zero (b : HB) (L : List HB) : hp (b :: L) 0 = b := by unfold hp; simp
theorem noRo2_old : ∀ {L0 L1 : List HB}, noRo2 L0 L1 = true → L0.length ≤ L1.length → ∀ i, i < L0.length → (hp L0 i).mine = true → (hp L1 i).born = true ∧ (hp L1 i).isRo = false
 | [], _, _, _, i, hi, _ => by simp at hi
 | b :: L0, [], _, hl, _, _, _ => by simp at hl
 | b :: L0, c :: L1, h, hl, i, hi, hm => by
  simp only [noRo2, Bool.and_eq_true, Bool.or_eq_true, Bool.not_eq_true'] at h
  cases i with
  | zero =>
   rw [hp_zero] at hm
   rw [hp_zero]
   rcases h.1 with h1 | h1
   ·rw [hm] at h1; cases h1
   ·exact h1
  | succ i =>
   rw [hp_cons] at hm
   rw [hp_cons]
   exact noRo2_old h.2 (by simpa using hl) i (by simpa using hi) hm
theorem noRo2_new : ∀ {L0 L1 : List HB}, noRo2 L0 L1 = true → L0.length ≤ L1.length → ∀ i, L0.length ≤ i → (hp L1 i).isRo = false
 | [], L1, h, _, i, _ => by
  simp only [noRo2, List.all_eq_true] at h
  unfold hp
  rw [List.getD_eq_getElem?_getD]
  cases hh : L1[i]? with
  | none => rfl
  | some x => simpa using h x (List.mem_of_getElem? hh)
 | b :: L0, [], _, hl, _, _ => by simp at hl
 | b :: L0, c :: L1, h, hl, i, hi => by
  simp only [noRo2, Bool.and_eq_true] at h
  cases i with
  | zero => simp at hi
  | succ i =>
   rw [hp_cons]
   exact noRo2_new h.2 (by simpa using hl) i (by simpa using hi)
theorem mrgL_get : ∀ {L0 L1 : List HB}, L0.length ≤ L1.length → ∀ i, hp (mrgL L0 L1) i = if i < L0.length then (bif (hp L0 i).mine then hp L1 i else hp L0 i) else hp L1 i
 | [], L1, _, i => by simp [mrgL]
 | b :: L0, [], hl, _ => by simp at hl
 | b :: L0, c :: L1, hl, i => by
  cases i with
  | zero => simp [mrgL, hp_zero]
  | succ i =>
   simp only [mrgL, hp_cons]
   rw [mrgL_get (by simpa using hl) i]
   simp
theorem wrs_oldB_ne {ρ : Nat → Nat} : ∀ {L0 L1 : List HB} {l : List Nat} {h : HM} {j : Nat}, (∀ i, i < L0.length → (hp L0 i).mine = true → l.getD i 0 ≠ j) → wrs h (oldB ρ L0 L1 l) j = h j
 | [], _, _, h, j, _ => rfl
 | b :: L0, [], l, h, j, _ => rfl
 | b :: L0, c :: L1, [], h, j, _ => rfl
 | b :: L0, c :: L1, k :: l, h, j, hn => by
  have ih := fun h' => wrs_oldB_ne (ρ := ρ) (L0 := L0) (L1 := L1) (l := l) (h := h') (j := j) (fun i hi hm => by
   have := hn (i + 1) (by simpa using hi) (by rw [hp_cons]; exact hm)
   simpa using this)
  cases hb : b.mine with
  | false => simp only [oldB, hb, cond_false]; exact ih h
  | true =>
   simp only [oldB, hb, cond_true]
   show wrs (upd h k (c.ren ρ)) (oldB ρ L0 L1 l) j = h j
   rw [ih, z8_ (fun e => hn 0 (by simp) (by rw [hp_zero]; exact hb) (by simpa using e.symm))]
theorem wrs_oldB {ρ : Nat → Nat} : ∀ {L0 L1 : List HB} {l : List Nat} {h : HM}, L0.length ≤ L1.length → l.length = L0.length → (∀ i j, i < j → j < L0.length → (hp L0 i).mine = true → (hp L0 j).mine = true → l.getD i 0 ≠ l.getD j 0) → ∀ i, i < L0.length → (hp L0 i).mine = true → wrs h (oldB ρ L0 L1 l) (l.getD i 0) = (hp L1 i).ren ρ
 | [], _, _, h, _, _, _, i, hi, _ => by simp at hi
 | b :: L0, [], l, h, hl, _, _, _, _, _ => by simp at hl
 | b :: L0, c :: L1, [], h, _, hl, _, _, _, _ => by simp at hl
 | b :: L0, c :: L1, k :: l, h, hle, hln, hn, i, hi, hm => by
  cases i with
  | zero =>
   rw [hp_zero] at hm
   simp only [oldB, hm, cond_true, List.getD_cons_zero]
   show wrs (upd h k (c.ren ρ)) (oldB ρ L0 L1 l) k = _
   rw [wrs_oldB_ne (fun i hi hm' e => hn 0 (i + 1) (by omega) (by simpa using hi) (by rw [hp_zero]; exact hm) (by rw [hp_cons]; exact hm') (by simpa using e.symm)), zr_, hp_zero]
  | succ i =>
   rw [hp_cons] at hm
   have ih := fun h' => wrs_oldB (ρ := ρ) (L0 := L0) (L1 := L1) (l := l) (h := h') (by simpa using hle) (by simpa using hln) (fun a b hab hb ha hb' => by
    have := hn (a + 1) (b + 1) (by omega) (by simpa using hb) (by rw [hp_cons]; exact ha) (by rw [hp_cons]; exact hb')
    simpa using this) i (by simpa using hi) hm
   rw [List.getD_cons_succ, hp_cons]
   cases hb : b.mine with
   | false => simp only [oldB, hb, cond_false]; exact ih h
   | true =>
    simp only [oldB, hb, cond_true]
    exact ih (upd h k (c.ren ρ))
theorem wrs_app : ∀ (l : List (Nat × HB)) {m : List (Nat × HB)} {h : HM}, wrs h (l ++ m) = wrs (wrs h l) m
 | [], _, _ => rfl
 | p :: l, m, h => wrs_app l
theorem laid_rw {L0 L1 : List HB} {h : HM} {l : List Nat} {m : Nat} {v : SV} (hlen : l.length = L0.length) (hpos : 0 < L0.length) (h00 : l.getD 0 0 = 0) (hz : hp L0 0 = .gone) (hfit : FitL (rhoL l m) h L0 l) (hinj : ∀ i j, i < L0.length → j < L0.length → i ≠ j → (hp L0 i).mine = true → (hp L0 j).mine = true ∨ (hp L0 j).isRo = true → l.getD i 0 ≠ l.getD j 0)
  (hm : ∀ i, m ≤ i → i < m + (L1.length - L0.length) → h i = .dead) (hle : L0.length ≤ L1.length) (hno : noRo2 L0 L1 = true)
  (hst0 : y5_ (hp L0) L0) (hstb : ∀ j, (h j).stable h) (hst1 : y5_ (hp (mrgL L0 L1)) (mrgL L0 L1)) (hv : zb_ (hp (mrgL L0 L1)) v) :
  Laid L0 L1 h (wrs h (oldB (rhoL l m) L0 L1 l ++ newB (rhoL l m) m (L1.drop L0.length))) (rhoL l m) m v := by
 rw [wrs_app]
 obtain ⟨k, hk⟩ : ∃ k, k = L1.length - L0.length := ⟨_, rfl⟩
 have hdl : (L1.drop L0.length).length = k := by rw [List.length_drop, hk]
 have hrl : ∀ i, i < L0.length → rhoL l m i = l.getD i 0 := fun i hi => if_pos (by omega)
 have hrn : ∀ i, L0.length ≤ i → rhoL l m i = m + (i - L0.length) := fun i hi => by
  unfold rhoL; rw [if_neg (by omega), hlen]
 have hget : ∀ j, m ≤ j → (L1.drop L0.length).getD (j - m) .dead = hp L1 (L0.length + (j - m)) := fun j hj => by
  unfold hp
  rw [List.getD_eq_getElem?_getD, List.getD_eq_getElem?_getD, List.getElem?_drop]
 have hmr := mrgL_get hle
 generalize hh1 : wrs h (oldB (rhoL l m) L0 L1 l) = h1
 have hnewj : ∀ j, m ≤ j → j < m + k → wrs h1 (newB (rhoL l m) m (L1.drop L0.length)) j = (hp L1 (L0.length + (j - m))).ren (rhoL l m) := fun j h1 h3 => by
  rw [wrs_newB, if_pos ⟨h1, by omega⟩, hget j h1]
 have holdj : ∀ j, ¬ (m ≤ j ∧ j < m + k) → wrs h1 (newB (rhoL l m) m (L1.drop L0.length)) j = h1 j := fun j hj => by
  rw [wrs_newB, if_neg (by rw [hdl]; exact hj)]
 have bornold : ∀ j, (h j).born = true → ¬ (m ≤ j ∧ j < m + k) := fun j hj hc => by
  rw [hm j hc.1 (by omega)] at hj; cases hj
 have hfit' : ∀ i, i < L0.length → Fit (rhoL l m) (hp L0 i) (h (rhoL l m i)) := fun i hi => by rw [hrl i hi]; exact fitL_get hfit i hi
 have hborn : ∀ i, i < L0.length → (h (l.getD i 0)).born = true := fun i hi => by rw [← hrl i hi]; exact (hfit' i hi).born
 have him : ∀ i, i < L0.length → (hp L0 i).mine = true → h1 (l.getD i 0) = (hp L1 i).ren (rhoL l m) := fun i hi hmi => by
  rw [← hh1]
  exact wrs_oldB hle hlen (fun a b hab hb ha hb' => hinj a b (by omega) hb (by omega) ha (.inl hb')) i hi hmi
 have hne : ∀ j, (∀ i, i < L0.length → (hp L0 i).mine = true → l.getD i 0 ≠ j) → h1 j = h j := fun j hj => by
  rw [← hh1]
  exact wrs_oldB_ne hj
 have born_ren : ∀ {b : HB}, b.born = true → (b.ren (rhoL l m)).born = true := fun {b} hb => by
  cases b <;> first | rfl | (cases hb; done)
 have more1 : ∀ j, (h j).born = true → (h1 j).born = true := fun j hj => by
  by_cases hc : ∃ i, i < L0.length ∧ (hp L0 i).mine = true ∧ l.getD i 0 = j
  ·obtain ⟨i, hi, hmi, rfl⟩ := hc
   rw [him i hi hmi]
   exact born_ren (noRo2_old hno hle i hi hmi).1
  ·rw [hne j (fun i hi hmi e => hc ⟨i, hi, hmi, e⟩)]; exact hj
 have more : ∀ i, (h i).born = true → (wrs h1 (newB (rhoL l m) m (L1.drop L0.length)) i).born = true := fun i hi => by rw [holdj i (bornold i hi)]; exact more1 i hi
 have moreG : ∀ i, (hp (mrgL L0 L1) i).born = true → (wrs h1 (newB (rhoL l m) m (L1.drop L0.length)) (rhoL l m i)).born = true := fun i hi => by
  rw [hmr i] at hi
  split at hi
  ·rename_i hlt
   exact more _ (hfit' i hlt).born
  ·rename_i hge
   have hlt : i < L1.length := by
    rcases Nat.lt_or_ge i L1.length with h' | h'
    ·exact h'
    ·rw [y1_ h'] at hi; cases hi
   rw [hrn i (by omega), hnewj _ (by omega) (by omega), show L0.length + (m + (i - L0.length) - m) = i by omega]
   exact born_ren hi
 have stG := xk_ hst1
 have ren_st : ∀ {b : HB}, b.stable (hp (mrgL L0 L1)) → (b.ren (rhoL l m)).stable (wrs h1 (newB (rhoL l m) m (L1.drop L0.length))) := fun {b} hs => by
  cases b with
  | own t u ex => exact zb_.ren moreG hs
  | ro u => exact zb_.ren moreG hs
  | raw o => trivial
  | gone => trivial
  | dead => trivial
 refine { z := by rw [hrl 0 hpos, h00], z0 := hz, new := fun i hi => hrn i hi, pre := hfit', inj := fun i j hi hj hne hmi hmj => by rw [hrl i hi, hrl j hj]; exact hinj i j hi hj hne hmi hmj, img := fun i hi hmi => ?_, old := fun j hj hno => ?_, fresh := fun j hj => ?_, un := fun i hi hb => ?_, st0 := xk_ hst0, st2 := fun j => ?_, stv := hv.ren moreG }
 ·rw [hrl i hi, holdj _ (bornold _ (hborn i hi)), him i hi hmi]
  exact ⟨rfl, (noRo2_old hno hle i hi hmi).2⟩
 ·rw [holdj j (bornold j hj)]
  exact hne j fun i hi hmi => by rw [← hrl i hi]; exact hno i hi hmi
 ·by_cases hc : m ≤ j ∧ j < m + k
  ·exact .inr ⟨hc.1, hnewj j hc.1 hc.2, noRo2_new hno hle _ (by omega)⟩
  ·left
   rw [holdj j hc, hne j (fun i hi hmi e => by rw [← e, hborn i hi] at hj; cases hj)]
   cases hh : h j <;> rw [hh] at hj <;> first | rfl | (cases hj; done)
 ·exact d24_
 ·by_cases hc : m ≤ j ∧ j < m + k
  ·rw [hnewj j hc.1 hc.2]
   have hs := stG (L0.length + (j - m))
   rw [hmr, if_neg (by omega)] at hs
   exact ren_st hs
  ·rw [holdj j hc]
   by_cases hc2 : ∃ i, i < L0.length ∧ (hp L0 i).mine = true ∧ l.getD i 0 = j
   ·obtain ⟨i, hi, hmi, rfl⟩ := hc2
    rw [him i hi hmi]
    have hs := stG i
    rw [hmr, if_pos hi, hmi] at hs
    exact ren_st hs
   ·rw [hne j (fun i hi hmi e => hc2 ⟨i, hi, hmi, e⟩)]
    exact HB.stable_more (hstb j) more
theorem callRW {P : Program} {f : FuncId} {args : List SV} {L0 L1 : List HB} {v : SV} {w0 w : World} {M : Nat → Prop} {β : Env} {h h' : HM} {m : Nat} (l : List Nat) (H : zp_ P f args L0 v L1) (R : Rep w0 M β h' w) (hlen : l.length = L0.length) (hpos : 0 < L0.length) (h00 : l.getD 0 0 = 0) (hz : hp L0 0 = .gone) (hfit : FitL (rhoL l m) h' L0 l)
  (hinj : ∀ i j, i < L0.length → j < L0.length → i ≠ j → (hp L0 i).mine = true → (hp L0 j).mine = true ∨ (hp L0 j).isRo = true → l.getD i 0 ≠ l.getD j 0)
  (hm : ∀ i, m ≤ i → h i = .dead) (hwr : ∀ p ∈ newB (rhoL l m) m (L1.drop L0.length), h' p.1 = h p.1) (hle : L0.length ≤ L1.length) (hno : noRo2 L0 L1 = true)
  (hst0 : y5_ (hp L0) L0) (hsta : ze_ (hp L0) args) (hst1 : y5_ (hp (mrgL L0 L1)) (mrgL L0 L1)) (hv : zb_ (hp (mrgL L0 L1)) v) :
  Calls P f (denL β (renL (rhoL l m) args)).toArray w fun e w' => ∃ β', (∀ i, (h' i).born = true → β i = β' i) ∧ Rep w0 M β' (wrs h' (oldB (rhoL l m) L0 L1 l ++ newB (rhoL l m) m (L1.drop L0.length))) w' ∧ zb_ (wrs h' (oldB (rhoL l m) L0 L1 l ++ newB (rhoL l m) m (L1.drop L0.length))) (v.ren (rhoL l m)) ∧ e = .returned ((v.ren (rhoL l m)).den β') :=
 call_lit H R (laid_rw hlen hpos h00 hz hfit hinj (fun i hi hlt => by
  obtain ⟨b, hb⟩ := newB_mem (ρ := rhoL l m) (l := L1.drop L0.length) hi (by rw [List.length_drop]; exact hlt)
  exact (hwr _ hb).trans (hm i hi)) hle hno hst0 R.st hst1 hv) hsta
end Go.Proofs.Ytmljmabbopkpiaa.Vm
end
section
namespace Go.Proofs.Ytmljmabbopkpiaa
open Go.RowKit
theorem formC_none (op : Int) (h : op < 1 ∨ 11 < op ∧ op ≤ 32 ∨ 49 < op) : y0_ op = 0 := by
 unfold y0_
 rw [if_neg (by omega), if_neg (by omega), if_neg (by omega), if_neg (by omega), if_neg (by omega), if_neg (by omega), if_neg (by omega)]
theorem formIx0 (w : World) : (Instr.index 171 (.agg #[.int .u8 1, .string ⟨#[]⟩, .int .u8 2, .string ⟨#[]⟩, .int .u8 3, .string ⟨#[114, 110]⟩, .int .u8 4, .string ⟨#[114, 114]⟩, .int .u8 5, .string ⟨#[114, 114]⟩, .int .u8 6, .string ⟨#[114, 114]⟩, .int .u8 7, .string ⟨#[114, 114]⟩, .int .u8 8, .string ⟨#[114, 114, 112]⟩, .int .u8 9, .string ⟨#[116]⟩, .int .u8 10, .string ⟨#[114, 116]⟩, .int .u8 11, .string ⟨#[114, 116]⟩]) (.int .i64 0)).run Try.prog w = .ok (.agg #[.int .u8 1, .string ⟨#[]⟩]) w := by kernel_rfl
theorem formIx1 (w : World) : (Instr.index 171 (.agg #[.int .u8 1, .string ⟨#[]⟩, .int .u8 2, .string ⟨#[]⟩, .int .u8 3, .string ⟨#[114, 110]⟩, .int .u8 4, .string ⟨#[114, 114]⟩, .int .u8 5, .string ⟨#[114, 114]⟩, .int .u8 6, .string ⟨#[114, 114]⟩, .int .u8 7, .string ⟨#[114, 114]⟩, .int .u8 8, .string ⟨#[114, 114, 112]⟩, .int .u8 9, .string ⟨#[116]⟩, .int .u8 10, .string ⟨#[114, 116]⟩, .int .u8 11, .string ⟨#[114, 116]⟩]) (.int .i64 1)).run Try.prog w = .ok (.agg #[.int .u8 2, .string ⟨#[]⟩]) w := by kernel_rfl
theorem formIx2 (w : World) : (Instr.index 171 (.agg #[.int .u8 1, .string ⟨#[]⟩, .int .u8 2, .string ⟨#[]⟩, .int .u8 3, .string ⟨#[114, 110]⟩, .int .u8 4, .string ⟨#[114, 114]⟩, .int .u8 5, .string ⟨#[114, 114]⟩, .int .u8 6, .string ⟨#[114, 114]⟩, .int .u8 7, .string ⟨#[114, 114]⟩, .int .u8 8, .string ⟨#[114, 114, 112]⟩, .int .u8 9, .string ⟨#[116]⟩, .int .u8 10, .string ⟨#[114, 116]⟩, .int .u8 11, .string ⟨#[114, 116]⟩]) (.int .i64 2)).run Try.prog w = .ok (.agg #[.int .u8 3, .string ⟨#[114, 110]⟩]) w := by kernel_rfl
theorem formIx3 (w : World) : (Instr.index 171 (.agg #[.int .u8 1, .string ⟨#[]⟩, .int .u8 2, .string ⟨#[]⟩, .int .u8 3, .string ⟨#[114, 110]⟩, .int .u8 4, .string ⟨#[114, 114]⟩, .int .u8 5, .string ⟨#[114, 114]⟩, .int .u8 6, .string ⟨#[114, 114]⟩, .int .u8 7, .string ⟨#[114, 114]⟩, .int .u8 8, .string ⟨#[114, 114, 112]⟩, .int .u8 9, .string ⟨#[116]⟩, .int .u8 10, .string ⟨#[114, 116]⟩, .int .u8 11, .string ⟨#[114, 116]⟩]) (.int .i64 3)).run Try.prog w = .ok (.agg #[.int .u8 4, .string ⟨#[114, 114]⟩]) w := by kernel_rfl
theorem formIx4 (w : World) : (Instr.index 171 (.agg #[.int .u8 1, .string ⟨#[]⟩, .int .u8 2, .string ⟨#[]⟩, .int .u8 3, .string ⟨#[114, 110]⟩, .int .u8 4, .string ⟨#[114, 114]⟩, .int .u8 5, .string ⟨#[114, 114]⟩, .int .u8 6, .string ⟨#[114, 114]⟩, .int .u8 7, .string ⟨#[114, 114]⟩, .int .u8 8, .string ⟨#[114, 114, 112]⟩, .int .u8 9, .string ⟨#[116]⟩, .int .u8 10, .string ⟨#[114, 116]⟩, .int .u8 11, .string ⟨#[114, 116]⟩]) (.int .i64 4)).run Try.prog w = .ok (.agg #[.int .u8 5, .string ⟨#[114, 114]⟩]) w := by kernel_rfl
theorem formIx5 (w : World) : (Instr.index 171 (.agg #[.int .u8 1, .string ⟨#[]⟩, .int .u8 2, .string ⟨#[]⟩, .int .u8 3, .string ⟨#[114, 110]⟩, .int .u8 4, .string ⟨#[114, 114]⟩, .int .u8 5, .string ⟨#[114, 114]⟩, .int .u8 6, .string ⟨#[114, 114]⟩, .int .u8 7, .string ⟨#[114, 114]⟩, .int .u8 8, .string ⟨#[114, 114, 112]⟩, .int .u8 9, .string ⟨#[116]⟩, .int .u8 10, .string ⟨#[114, 116]⟩, .int .u8 11, .string ⟨#[114, 116]⟩]) (.int .i64 5)).run Try.prog w = .ok (.agg #[.int .u8 6, .string ⟨#[114, 114]⟩]) w := by kernel_rfl
theorem formIx6 (w : World) : (Instr.index 171 (.agg #[.int .u8 1, .string ⟨#[]⟩, .int .u8 2, .string ⟨#[]⟩, .int .u8 3, .string ⟨#[114, 110]⟩, .int .u8 4, .string ⟨#[114, 114]⟩, .int .u8 5, .string ⟨#[114, 114]⟩, .int .u8 6, .string ⟨#[114, 114]⟩, .int .u8 7, .string ⟨#[114, 114]⟩, .int .u8 8, .string ⟨#[114, 114, 112]⟩, .int .u8 9, .string ⟨#[116]⟩, .int .u8 10, .string ⟨#[114, 116]⟩, .int .u8 11, .string ⟨#[114, 116]⟩]) (.int .i64 6)).run Try.prog w = .ok (.agg #[.int .u8 7, .string ⟨#[114, 114]⟩]) w := by kernel_rfl
theorem formIx7 (w : World) : (Instr.index 171 (.agg #[.int .u8 1, .string ⟨#[]⟩, .int .u8 2, .string ⟨#[]⟩, .int .u8 3, .string ⟨#[114, 110]⟩, .int .u8 4, .string ⟨#[114, 114]⟩, .int .u8 5, .string ⟨#[114, 114]⟩, .int .u8 6, .string ⟨#[114, 114]⟩, .int .u8 7, .string ⟨#[114, 114]⟩, .int .u8 8, .string ⟨#[114, 114, 112]⟩, .int .u8 9, .string ⟨#[116]⟩, .int .u8 10, .string ⟨#[114, 116]⟩, .int .u8 11, .string ⟨#[114, 116]⟩]) (.int .i64 7)).run Try.prog w = .ok (.agg #[.int .u8 8, .string ⟨#[114, 114, 112]⟩]) w := by kernel_rfl
theorem formIx8 (w : World) : (Instr.index 171 (.agg #[.int .u8 1, .string ⟨#[]⟩, .int .u8 2, .string ⟨#[]⟩, .int .u8 3, .string ⟨#[114, 110]⟩, .int .u8 4, .string ⟨#[114, 114]⟩, .int .u8 5, .string ⟨#[114, 114]⟩, .int .u8 6, .string ⟨#[114, 114]⟩, .int .u8 7, .string ⟨#[114, 114]⟩, .int .u8 8, .string ⟨#[114, 114, 112]⟩, .int .u8 9, .string ⟨#[116]⟩, .int .u8 10, .string ⟨#[114, 116]⟩, .int .u8 11, .string ⟨#[114, 116]⟩]) (.int .i64 8)).run Try.prog w = .ok (.agg #[.int .u8 9, .string ⟨#[116]⟩]) w := by kernel_rfl
theorem formIx9 (w : World) : (Instr.index 171 (.agg #[.int .u8 1, .string ⟨#[]⟩, .int .u8 2, .string ⟨#[]⟩, .int .u8 3, .string ⟨#[114, 110]⟩, .int .u8 4, .string ⟨#[114, 114]⟩, .int .u8 5, .string ⟨#[114, 114]⟩, .int .u8 6, .string ⟨#[114, 114]⟩, .int .u8 7, .string ⟨#[114, 114]⟩, .int .u8 8, .string ⟨#[114, 114, 112]⟩, .int .u8 9, .string ⟨#[116]⟩, .int .u8 10, .string ⟨#[114, 116]⟩, .int .u8 11, .string ⟨#[114, 116]⟩]) (.int .i64 9)).run Try.prog w = .ok (.agg #[.int .u8 10, .string ⟨#[114, 116]⟩]) w := by kernel_rfl
theorem formIx10 (w : World) : (Instr.index 171 (.agg #[.int .u8 1, .string ⟨#[]⟩, .int .u8 2, .string ⟨#[]⟩, .int .u8 3, .string ⟨#[114, 110]⟩, .int .u8 4, .string ⟨#[114, 114]⟩, .int .u8 5, .string ⟨#[114, 114]⟩, .int .u8 6, .string ⟨#[114, 114]⟩, .int .u8 7, .string ⟨#[114, 114]⟩, .int .u8 8, .string ⟨#[114, 114, 112]⟩, .int .u8 9, .string ⟨#[116]⟩, .int .u8 10, .string ⟨#[114, 116]⟩, .int .u8 11, .string ⟨#[114, 116]⟩]) (.int .i64 10)).run Try.prog w = .ok (.agg #[.int .u8 11, .string ⟨#[114, 116]⟩]) w := by kernel_rfl
theorem form_rrr (op : Int) (w : World) (h0 : 32 < op) (h1 : op ≤ 49)  :
  Calls Try.prog 39 #[.int .u8 op] w fun e w' => e = .returned (.tuple #[.string ⟨#[114, 114, 114]⟩, .bool true]) ∧ Below w.heap.size w w' := by
 go_enter Try.func39, Try.ntmps39
 go_wp2
 go_ret2
 exact ⟨rfl, Below.refl _ _⟩
set_option maxRecDepth 100000 in
set_option maxHeartbeats 4000000 in
theorem form_lo (op : Int) (w : World) (h0 : 0 ≤ op) (h1 : op ≤ 32) :
  Calls Try.prog 39 #[.int .u8 op] w fun e w' => e = .returned (.tuple #[.string (z1_ (y0_ op)), .bool (y0_ op != 0)]) ∧ Below w.heap.size w w' := by
 go_enter Try.func39, Try.ntmps39
 go_wp2
 go_loopw [24] (fun k wr => ∃ n : Nat, k = .int .i64 n ∧ n ≤ 11 ∧ (op < 1 ∨ (n : Int) < op) ∧ Below w.heap.size w wr) (fun k _ => 11 - (intOf k).toNat)
 case atStart => exact ⟨0, rfl, by omega, by omega, Below.refl _ _⟩
 case round =>
  obtain ⟨n, rfl, hn, hop, hb⟩ := hrel
  have hz := hb.size
  have HB := Lib.hid hb
  clear hb
  have hN : n = 0 ∨ n = 1 ∨ n = 2 ∨ n = 3 ∨ n = 4 ∨ n = 5 ∨ n = 6 ∨ n = 7 ∨ n = 8 ∨ n = 9 ∨ n = 10 ∨ n = 11 := by omega
  rcases hN with rfl | rfl | rfl | rfl | rfl | rfl | rfl | rfl | rfl | rfl | rfl | rfl
  ·have i0 := formIx0
   go_wp2
   ·have he : (1 : Int) = op := beq_iff_eq.1 (by assumption)
    subst he
    go_ret2
    exact ⟨rfl, HB.out.alloc hz _⟩
   ·have he : (1 : Int) ≠ op := beq_eq_false_iff_ne.1 (by assumption)
    go_roundw
    case rel => exact ⟨1, by go_num, by omega, by omega, HB.out.alloc hz _⟩
    case measure => simp [intOf]
  ·have i0 := formIx1
   go_wp2
   ·have he : (2 : Int) = op := beq_iff_eq.1 (by assumption)
    subst he
    go_ret2
    exact ⟨rfl, HB.out.alloc hz _⟩
   ·have he : (2 : Int) ≠ op := beq_eq_false_iff_ne.1 (by assumption)
    go_roundw
    case rel => exact ⟨2, by go_num, by omega, by omega, HB.out.alloc hz _⟩
    case measure => simp [intOf]
  ·have i0 := formIx2
   go_wp2
   ·have he : (3 : Int) = op := beq_iff_eq.1 (by assumption)
    subst he
    go_ret2
    exact ⟨rfl, HB.out.alloc hz _⟩
   ·have he : (3 : Int) ≠ op := beq_eq_false_iff_ne.1 (by assumption)
    go_roundw
    case rel => exact ⟨3, by go_num, by omega, by omega, HB.out.alloc hz _⟩
    case measure => simp [intOf]
  ·have i0 := formIx3
   go_wp2
   ·have he : (4 : Int) = op := beq_iff_eq.1 (by assumption)
    subst he
    go_ret2
    exact ⟨rfl, HB.out.alloc hz _⟩
   ·have he : (4 : Int) ≠ op := beq_eq_false_iff_ne.1 (by assumption)
    go_roundw
    case rel => exact ⟨4, by go_num, by omega, by omega, HB.out.alloc hz _⟩
    case measure => simp [intOf]
  ·have i0 := formIx4
   go_wp2
   ·have he : (5 : Int) = op := beq_iff_eq.1 (by assumption)
    subst he
    go_ret2
    exact ⟨rfl, HB.out.alloc hz _⟩
   ·have he : (5 : Int) ≠ op := beq_eq_false_iff_ne.1 (by assumption)
    go_roundw
    case rel => exact ⟨5, by go_num, by omega, by omega, HB.out.alloc hz _⟩
    case measure => simp [intOf]
  ·have i0 := formIx5
   go_wp2
   ·have he : (6 : Int) = op := beq_iff_eq.1 (by assumption)
    subst he
    go_ret2
    exact ⟨rfl, HB.out.alloc hz _⟩
   ·have he : (6 : Int) ≠ op := beq_eq_false_iff_ne.1 (by assumption)
    go_roundw
    case rel => exact ⟨6, by go_num, by omega, by omega, HB.out.alloc hz _⟩
    case measure => simp [intOf]
  ·have i0 := formIx6
   go_wp2
   ·have he : (7 : Int) = op := beq_iff_eq.1 (by assumption)
    subst he
    go_ret2
    exact ⟨rfl, HB.out.alloc hz _⟩
   ·have he : (7 : Int) ≠ op := beq_eq_false_iff_ne.1 (by assumption)
    go_roundw
    case rel => exact ⟨7, by go_num, by omega, by omega, HB.out.alloc hz _⟩
    case measure => simp [intOf]
  ·have i0 := formIx7
   go_wp2
   ·have he : (8 : Int) = op := beq_iff_eq.1 (by assumption)
    subst he
    go_ret2
    exact ⟨rfl, HB.out.alloc hz _⟩
   ·have he : (8 : Int) ≠ op := beq_eq_false_iff_ne.1 (by assumption)
    go_roundw
    case rel => exact ⟨8, by go_num, by omega, by omega, HB.out.alloc hz _⟩
    case measure => simp [intOf]
  ·have i0 := formIx8
   go_wp2
   ·have he : (9 : Int) = op := beq_iff_eq.1 (by assumption)
    subst he
    go_ret2
    exact ⟨rfl, HB.out.alloc hz _⟩
   ·have he : (9 : Int) ≠ op := beq_eq_false_iff_ne.1 (by assumption)
    go_roundw
    case rel => exact ⟨9, by go_num, by omega, by omega, HB.out.alloc hz _⟩
    case measure => simp [intOf]
  ·have i0 := formIx9
   go_wp2
   ·have he : (10 : Int) = op := beq_iff_eq.1 (by assumption)
    subst he
    go_ret2
    exact ⟨rfl, HB.out.alloc hz _⟩
   ·have he : (10 : Int) ≠ op := beq_eq_false_iff_ne.1 (by assumption)
    go_roundw
    case rel => exact ⟨10, by go_num, by omega, by omega, HB.out.alloc hz _⟩
    case measure => simp [intOf]
  ·have i0 := formIx10
   go_wp2
   ·have he : (11 : Int) = op := beq_iff_eq.1 (by assumption)
    subst he
    go_ret2
    exact ⟨rfl, HB.out.alloc hz _⟩
   ·have he : (11 : Int) ≠ op := beq_eq_false_iff_ne.1 (by assumption)
    go_roundw
    case rel => exact ⟨11, by go_num, by omega, by omega, HB.out.alloc hz _⟩
    case measure => simp [intOf]
  ·go_wp2
   go_ret2
   refine ⟨?_, HB.out⟩
   rw [formC_none op (by omega)]
   rfl
set_option maxRecDepth 100000 in
set_option maxHeartbeats 4000000 in
theorem form_hi (op : Int) (w : World) (h1 : 49 < op) :
  Calls Try.prog 39 #[.int .u8 op] w fun e w' => e = .returned (.tuple #[.string (z1_ (y0_ op)), .bool (y0_ op != 0)]) ∧ Below w.heap.size w w' := by
 have h32 : 32 < op := by omega
 go_enter Try.func39, Try.ntmps39
 go_wp2
 go_loopw [24] (fun k wr => ∃ n : Nat, k = .int .i64 n ∧ n ≤ 11 ∧ (op < 1 ∨ (n : Int) < op) ∧ Below w.heap.size w wr) (fun k _ => 11 - (intOf k).toNat)
 case atStart => exact ⟨0, rfl, by omega, by omega, Below.refl _ _⟩
 case round =>
  obtain ⟨n, rfl, hn, hop, hb⟩ := hrel
  have hz := hb.size
  have HB := Lib.hid hb
  clear hb
  have hN : n = 0 ∨ n = 1 ∨ n = 2 ∨ n = 3 ∨ n = 4 ∨ n = 5 ∨ n = 6 ∨ n = 7 ∨ n = 8 ∨ n = 9 ∨ n = 10 ∨ n = 11 := by omega
  rcases hN with rfl | rfl | rfl | rfl | rfl | rfl | rfl | rfl | rfl | rfl | rfl | rfl
  ·have i0 := formIx0
   have he : ((1 : Int) == op) = false := beq_eq_false_iff_ne.2 (by omega)
   go_wp2
   go_roundw
   case rel => exact ⟨1, by go_num, by omega, by omega, HB.out.alloc hz _⟩
   case measure => simp [intOf]
  ·have i0 := formIx1
   have he : ((2 : Int) == op) = false := beq_eq_false_iff_ne.2 (by omega)
   go_wp2
   go_roundw
   case rel => exact ⟨2, by go_num, by omega, by omega, HB.out.alloc hz _⟩
   case measure => simp [intOf]
  ·have i0 := formIx2
   have he : ((3 : Int) == op) = false := beq_eq_false_iff_ne.2 (by omega)
   go_wp2
   go_roundw
   case rel => exact ⟨3, by go_num, by omega, by omega, HB.out.alloc hz _⟩
   case measure => simp [intOf]
  ·have i0 := formIx3
   have he : ((4 : Int) == op) = false := beq_eq_false_iff_ne.2 (by omega)
   go_wp2
   go_roundw
   case rel => exact ⟨4, by go_num, by omega, by omega, HB.out.alloc hz _⟩
   case measure => simp [intOf]
  ·have i0 := formIx4
   have he : ((5 : Int) == op) = false := beq_eq_false_iff_ne.2 (by omega)
   go_wp2
   go_roundw
   case rel => exact ⟨5, by go_num, by omega, by omega, HB.out.alloc hz _⟩
   case measure => simp [intOf]
  ·have i0 := formIx5
   have he : ((6 : Int) == op) = false := beq_eq_false_iff_ne.2 (by omega)
   go_wp2
   go_roundw
   case rel => exact ⟨6, by go_num, by omega, by omega, HB.out.alloc hz _⟩
   case measure => simp [intOf]
  ·have i0 := formIx6
   have he : ((7 : Int) == op) = false := beq_eq_false_iff_ne.2 (by omega)
   go_wp2
   go_roundw
   case rel => exact ⟨7, by go_num, by omega, by omega, HB.out.alloc hz _⟩
   case measure => simp [intOf]
  ·have i0 := formIx7
   have he : ((8 : Int) == op) = false := beq_eq_false_iff_ne.2 (by omega)
   go_wp2
   go_roundw
   case rel => exact ⟨8, by go_num, by omega, by omega, HB.out.alloc hz _⟩
   case measure => simp [intOf]
  ·have i0 := formIx8
   have he : ((9 : Int) == op) = false := beq_eq_false_iff_ne.2 (by omega)
   go_wp2
   go_roundw
   case rel => exact ⟨9, by go_num, by omega, by omega, HB.out.alloc hz _⟩
   case measure => simp [intOf]
  ·have i0 := formIx9
   have he : ((10 : Int) == op) = false := beq_eq_false_iff_ne.2 (by omega)
   go_wp2
   go_roundw
   case rel => exact ⟨10, by go_num, by omega, by omega, HB.out.alloc hz _⟩
   case measure => simp [intOf]
  ·have i0 := formIx10
   have he : ((11 : Int) == op) = false := beq_eq_false_iff_ne.2 (by omega)
   go_wp2
   go_roundw
   case rel => exact ⟨11, by go_num, by omega, by omega, HB.out.alloc hz _⟩
   case measure => simp [intOf]
  ·go_wp2
   go_ret2
   refine ⟨?_, HB.out⟩
   rw [formC_none op (by omega)]
   rfl
end Go.Proofs.Ytmljmabbopkpiaa
end

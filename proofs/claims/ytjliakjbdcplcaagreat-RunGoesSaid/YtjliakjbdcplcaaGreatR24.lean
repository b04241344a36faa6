import Derived.Test.YtjliakjbdcplcaaGreatR1
import Derived.Test.YtjliakjbdcplcaaGreatR10
import Derived.Test.YtjliakjbdcplcaaGreatR21
import Derived.Test.YtjliakjbdcplcaaGreatR23
set_option linter.unusedSimpArgs false
set_option linter.unusedVariables false
set_option maxRecDepth 100000
set_option maxHeartbeats 4000000
section
namespace Go.Proofs.YtjliakjbdcplcaaGreat.Vm
open Go.RowKit
theorem den_sr {β β' : Env} {s : Sta} {x y x' y' : SV} {e : Int} (hx : x.den β = x'.den β') (hy : y.den β = y'.den β') : (SV.tup [sr s x y, .int .i64 e]).den β = (SV.tup [sr s x' y', .int .i64 e]).den β' := by
 simp only [sr, SV.den, denL, hx, hy]
theorem stable_sr {h : HM} {s : Sta} {x y : SV} {e : Int} (hx : Stable h x) (hy : Stable h y) : Stable h (.tup [sr s x y, .int .i64 e]) := by
 simp only [sr, Stable, zd_, hx, hy, and_self, implies_true]
def sROneE : yt_ := fun args h m => match args with
 | [.agg [v1, v2, v3, v4, v5], .agg [v6, v7, v8, v9, v10], .agg [v11, .bool v12, .arr 8 1 v13, v14, v15, v16]] => match xv_ h 1 (.tup []) v14, xv_ h 3 (.tup []) v16 with
  | some (c14, n14, f14, r14), some (c16, n16, f16, r16) => bif isI .u8 v1 && isI .u8 v2 && isI .u8 v3 && isI .u8 v4 && isI .i64 v5 && isI .u64 v6 && isI .i64 v7 && isI .i64 v8 && isI .i64 v9 && isI .i64 v10 && isI .i64 v11 && isI .i64 v15 then some (c14 ∧ c16 ∧ (∀ q, q < n14 → isI .i64 (f14 q) = true) ∧ (∀ q, q < n16 → isSnd (f16 q) = true) ∧ (∀ q, q < 8 → isI .i64 (v13 q) = true) ∧ (OOk ⟨(iOf v11), v12, (fun q => iOf (v13 q)), (ls iOf n14 f14), (iOf v15), (ls zw_ n16 f16)⟩ ⟨(iOf v6), (iOf v7), (iOf v8), (iOf v9), (iOf v10)⟩ ⟨(iOf v1), (iOf v2), (iOf v3), (iOf v4), (iOf v5)⟩) ∧ (doE ⟨(iOf v11), v12, (fun q => iOf (v13 q)), (ls iOf n14 f14), (iOf v15), (ls zw_ n16 f16)⟩ ⟨(iOf v6), (iOf v7), (iOf v8), (iOf v9), (iOf v10)⟩ ⟨(iOf v1), (iOf v2), (iOf v3), (iOf v4), (iOf v5)⟩ ≠ 0), .tup [yn_, .int .i64 (doE ⟨(iOf v11), v12, (fun q => iOf (v13 q)), (ls iOf n14 f14), (iOf v15), (ls zw_ n16 f16)⟩ ⟨(iOf v6), (iOf v7), (iOf v8), (iOf v9), (iOf v10)⟩ ⟨(iOf v1), (iOf v2), (iOf v3), (iOf v4), (iOf v5)⟩)], r14 ++ r16, []) else none
  | _, _ => none
 | _ => none
theorem sROneE_ok : zh_ Tryz.prog 86 sROneE := by
 refine ⟨zf_ (by kernel_rfl), fun args h m c v rd wr hs hm hc w0 M β h' w R hrd hwr hst => ?_⟩
 unfold sROneE at hs
 split at hs
 ·rename_i v1 v2 v3 v4 v5 v6 v7 v8 v9 v10 v11 v12 v13 v14 v15 v16
  split at hs
  ·rename_i c14 n14 f14 r14 c16 n16 f16 r16 a14 a16
   obtain ⟨hb, hs⟩ := zj_ hs
   simp only [Option.some.injEq, Prod.mk.injEq] at hs
   obtain ⟨rfl, rfl, rfl, rfl⟩ := hs
   simp only [Bool.and_eq_true] at hb
   obtain ⟨⟨⟨⟨⟨⟨⟨⟨⟨⟨⟨b1, b2⟩, b3⟩, b4⟩, b5⟩, b6⟩, b7⟩, b8⟩, b9⟩, b10⟩, b11⟩, b15⟩ := hb
   obtain ⟨k14, k16, g14, g16, g13, y1, y2⟩ := hc
   obtain ⟨A14, p14, d14, e14, t14⟩ := zi_ R a14 k14 (fun i hi => hrd i (List.mem_append_left _ hi)) (by omega)
   obtain ⟨A16, p16, d16, e16, t16⟩ := zi_ R a16 k16 (fun i hi => hrd i (List.mem_append_right _ hi)) (by omega)
   refine ym_ (views := [⟨1, (ls iOf n14 f14).length, i64S (ls iOf n14 f14), A14, p14⟩, ⟨3, (ls zw_ n16 f16).length, zm_ (ls zw_ n16 f16), A16, p16⟩]) (oneE_lit ⟨(iOf v11), v12, (fun q => iOf (v13 q)), (ls iOf n14 f14), (iOf v15), (ls zw_ n16 f16)⟩ ⟨(iOf v6), (iOf v7), (iOf v8), (iOf v9), (iOf v10)⟩ ⟨(iOf v1), (iOf v2), (iOf v3), (iOf v4), (iOf v5)⟩ p14 p16 y1 y2) ?_ R hm hwr ?_ ?_ ?_
   ·exact d37_
   ·exact d38_
   ·exact k74_
   ·exact k74_
  ·cases hs
 ·cases hs
def sROneX : yt_ := fun args h m => match args with
 | [.agg [v1, v2, v3, v4, v5], .agg [v6, v7, v8, v9, v10], .agg [v11, .bool v12, .arr 8 1 v13, v14, v15, v16]] => match xv_ h 1 (.tup []) v14, xv_ h 3 (.tup []) v16 with
  | some (c14, n14, f14, r14), some (c16, n16, f16, r16) => bif isI .u8 v1 && isI .u8 v2 && isI .u8 v3 && isI .u8 v4 && isI .i64 v5 && isI .u64 v6 && isI .i64 v7 && isI .i64 v8 && isI .i64 v9 && isI .i64 v10 && isI .i64 v11 && isI .i64 v15 then some (c14 ∧ c16 ∧ (∀ q, q < n14 → isI .i64 (f14 q) = true) ∧ (∀ q, q < n16 → isSnd (f16 q) = true) ∧ (∀ q, q < 8 → isI .i64 (v13 q) = true) ∧ (OOk ⟨iOf v11, v12, fun q => iOf (v13 q), ls iOf n14 f14, iOf v15, ls zw_ n16 f16⟩ ⟨iOf v6, iOf v7, iOf v8, iOf v9, iOf v10⟩ ⟨iOf v1, iOf v2, iOf v3, iOf v4, iOf v5⟩) ∧ (doE ⟨iOf v11, v12, fun q => iOf (v13 q), ls iOf n14 f14, iOf v15, ls zw_ n16 f16⟩ ⟨iOf v6, iOf v7, iOf v8, iOf v9, iOf v10⟩ ⟨iOf v1, iOf v2, iOf v3, iOf v4, iOf v5⟩ = 0) ∧ (iOf v1 ≠ 6) ∧ (iOf v1 ≠ 8), .tup [sr (doS ⟨iOf v11, v12, fun q => iOf (v13 q), ls iOf n14 f14, iOf v15, ls zw_ n16 f16⟩ ⟨iOf v6, iOf v7, iOf v8, iOf v9, iOf v10⟩ ⟨iOf v1, iOf v2, iOf v3, iOf v4, iOf v5⟩) v14 v16, .int .i64 0], r14 ++ r16, []) else none
  | _, _ => none
 | _ => none
theorem sROneX_ok : zh_ Tryz.prog 86 sROneX := by
 refine ⟨zf_ (by kernel_rfl), fun args h m c v rd wr hs hm hc w0 M β h' w R hrd hwr hst => ?_⟩
 unfold sROneX at hs
 split at hs
 ·rename_i v1 v2 v3 v4 v5 v6 v7 v8 v9 v10 v11 v12 v13 v14 v15 v16
  split at hs
  ·rename_i c14 n14 f14 r14 c16 n16 f16 r16 a14 a16
   obtain ⟨hb, hs⟩ := zj_ hs
   simp only [Option.some.injEq, Prod.mk.injEq] at hs
   obtain ⟨rfl, rfl, rfl, rfl⟩ := hs
   simp only [Bool.and_eq_true] at hb
   obtain ⟨⟨⟨⟨⟨⟨⟨⟨⟨⟨⟨b1, b2⟩, b3⟩, b4⟩, b5⟩, b6⟩, b7⟩, b8⟩, b9⟩, b10⟩, b11⟩, b15⟩ := hb
   obtain ⟨k14, k16, g14, g16, g13, y1, y2, y3, y4⟩ := hc
   have s14 : Stable h' v14 := by simp only [zd_, Stable] at hst; exact hst.2.2.1.2.2.2.1
   have s16 : Stable h' v16 := by simp only [zd_, Stable] at hst; exact hst.2.2.1.2.2.2.2.2.1
   obtain ⟨A14, p14, d14, e14, t14⟩ := zi_ R a14 k14 (fun i hi => hrd i (List.mem_append_left _ hi)) (by omega)
   obtain ⟨A16, p16, d16, e16, t16⟩ := zi_ R a16 k16 (fun i hi => hrd i (List.mem_append_right _ hi)) (by omega)
   refine callRoV (v' := .nilp) (views := [⟨1, (ls iOf n14 f14).length, i64S (ls iOf n14 f14), A14, p14⟩, ⟨3, (ls zw_ n16 f16).length, zm_ (ls zw_ n16 f16), A16, p16⟩]) (oneX_lit ⟨iOf v11, v12, fun q => iOf (v13 q), ls iOf n14 f14, iOf v15, ls zw_ n16 f16⟩ ⟨iOf v6, iOf v7, iOf v8, iOf v9, iOf v10⟩ ⟨iOf v1, iOf v2, iOf v3, iOf v4, iOf v5⟩ p14 p16 y1 y2 y3 y4) ?_ R hm hwr ?_ ?_ ?_ ?_ ?_
   ·exact d37_
   ·exact d38_
   ·exact k74_
   ·exact k74_
   ·intro h2 hb2 hp2
    exact stable_sr (s14.more hb2) (s16.more hb2)
   ·intro β2 β' hv he hbo
    simp only [Vd, zb_, and_true] at hv
    obtain ⟨z14, z16⟩ := hv
    have u14 := (Stable.den hbo s14).symm.trans d14
    have u16 := (Stable.den hbo s16).symm.trans d16
    refine den_sr (by rw [u14]; simp only [csl, zb_]; exact z14) (by rw [u16]; simp only [ssl, zb_]; exact z16)
  ·cases hs
 ·cases hs
def sROne6 : yt_ := fun args h m => match args with
 | [.agg [v1, v2, v3, v4, v5], .agg [v6, v7, v8, v9, v10], .agg [v11, .bool v12, .arr 8 1 v13, v14, v15, v16]] => match xv_ h 1 (.tup []) v14, xv_ h 3 (.tup []) v16 with
  | some (c14, n14, f14, r14), some (c16, n16, f16, r16) => bif isI .u8 v1 && isI .u8 v2 && isI .u8 v3 && isI .u8 v4 && isI .i64 v5 && isI .u64 v6 && isI .i64 v7 && isI .i64 v8 && isI .i64 v9 && isI .i64 v10 && isI .i64 v11 && isI .i64 v15 then some (c14 ∧ c16 ∧ (∀ q, q < n14 → isI .i64 (f14 q) = true) ∧ (∀ q, q < n16 → isSnd (f16 q) = true) ∧ (∀ q, q < 8 → isI .i64 (v13 q) = true) ∧ (OOk ⟨iOf v11, v12, fun q => iOf (v13 q), ls iOf n14 f14, iOf v15, ls zw_ n16 f16⟩ ⟨iOf v6, iOf v7, iOf v8, iOf v9, iOf v10⟩ ⟨iOf v1, iOf v2, iOf v3, iOf v4, iOf v5⟩) ∧ (doE ⟨iOf v11, v12, fun q => iOf (v13 q), ls iOf n14 f14, iOf v15, ls zw_ n16 f16⟩ ⟨iOf v6, iOf v7, iOf v8, iOf v9, iOf v10⟩ ⟨iOf v1, iOf v2, iOf v3, iOf v4, iOf v5⟩ = 0) ∧ (iOf v1 = 6), .tup [sr (doS ⟨iOf v11, v12, fun q => iOf (v13 q), ls iOf n14 f14, iOf v15, ls zw_ n16 f16⟩ ⟨iOf v6, iOf v7, iOf v8, iOf v9, iOf v10⟩ ⟨iOf v1, iOf v2, iOf v3, iOf v4, iOf v5⟩) (.sl m m [] 1 0 (ls iOf n14 f14).length none) v16, .int .i64 0], r14 ++ r16, [(m, .own 2 (.arr (ls iOf n14 f14).length 1 (i64S (doS ⟨iOf v11, v12, fun q => iOf (v13 q), ls iOf n14 f14, iOf v15, ls zw_ n16 f16⟩ ⟨iOf v6, iOf v7, iOf v8, iOf v9, iOf v10⟩ ⟨iOf v1, iOf v2, iOf v3, iOf v4, iOf v5⟩).cells)) false)]) else none
  | _, _ => none
 | _ => none
theorem sROne6_ok : zh_ Tryz.prog 86 sROne6 := by
 refine ⟨zf_ (by kernel_rfl), fun args h m c v rd wr hs hm hc w0 M β h' w R hrd hwr hst => ?_⟩
 unfold sROne6 at hs
 split at hs
 ·rename_i v1 v2 v3 v4 v5 v6 v7 v8 v9 v10 v11 v12 v13 v14 v15 v16
  split at hs
  ·rename_i c14 n14 f14 r14 c16 n16 f16 r16 a14 a16
   obtain ⟨hb, hs⟩ := zj_ hs
   simp only [Option.some.injEq, Prod.mk.injEq] at hs
   obtain ⟨rfl, rfl, rfl, rfl⟩ := hs
   simp only [Bool.and_eq_true] at hb
   obtain ⟨⟨⟨⟨⟨⟨⟨⟨⟨⟨⟨b1, b2⟩, b3⟩, b4⟩, b5⟩, b6⟩, b7⟩, b8⟩, b9⟩, b10⟩, b11⟩, b15⟩ := hb
   obtain ⟨k14, k16, g14, g16, g13, y1, y2, y3⟩ := hc
   have s14 : Stable h' v14 := by simp only [zd_, Stable] at hst; exact hst.2.2.1.2.2.2.1
   have s16 : Stable h' v16 := by simp only [zd_, Stable] at hst; exact hst.2.2.1.2.2.2.2.2.1
   obtain ⟨A14, p14, d14, e14, t14⟩ := zi_ R a14 k14 (fun i hi => hrd i (List.mem_append_left _ hi)) (by omega)
   obtain ⟨A16, p16, d16, e16, t16⟩ := zi_ R a16 k16 (fun i hi => hrd i (List.mem_append_right _ hi)) (by omega)
   refine callRoV (v' := .sl 5 5 [] 1 0 (ls iOf n14 f14).length none) (views := [⟨1, (ls iOf n14 f14).length, i64S (ls iOf n14 f14), A14, p14⟩, ⟨3, (ls zw_ n16 f16).length, zm_ (ls zw_ n16 f16), A16, p16⟩]) (one6_lit ⟨iOf v11, v12, fun q => iOf (v13 q), ls iOf n14 f14, iOf v15, ls zw_ n16 f16⟩ ⟨iOf v6, iOf v7, iOf v8, iOf v9, iOf v10⟩ ⟨iOf v1, iOf v2, iOf v3, iOf v4, iOf v5⟩ p14 p16 y1 y2 y3) ?_ R hm hwr ?_ ?_ ?_ ?_ ?_
   ·exact d37_
   ·exact d38_
   ·exact k74_
   ·exact k74_
   ·intro h2 hb2 hp2
    exact stable_sr hp2 (s16.more hb2)
   ·intro β2 β' hv he hbo
    simp only [Vd, zb_, and_true] at hv
    obtain ⟨z14, z16⟩ := hv
    have u14 := (Stable.den hbo s14).symm.trans d14
    have u16 := (Stable.den hbo s16).symm.trans d16
    refine den_sr he (by rw [u16]; simp only [ssl, zb_]; exact z16)
  ·cases hs
 ·cases hs
def sROne8 : yt_ := fun args h m => match args with
 | [.agg [v1, v2, v3, v4, v5], .agg [v6, v7, v8, v9, v10], .agg [v11, .bool v12, .arr 8 1 v13, v14, v15, v16]] => match xv_ h 1 (.tup []) v14, xv_ h 3 (.tup []) v16 with
  | some (c14, n14, f14, r14), some (c16, n16, f16, r16) => bif isI .u8 v1 && isI .u8 v2 && isI .u8 v3 && isI .u8 v4 && isI .i64 v5 && isI .u64 v6 && isI .i64 v7 && isI .i64 v8 && isI .i64 v9 && isI .i64 v10 && isI .i64 v11 && isI .i64 v15 then some (c14 ∧ c16 ∧ (∀ q, q < n14 → isI .i64 (f14 q) = true) ∧ (∀ q, q < n16 → isSnd (f16 q) = true) ∧ (∀ q, q < 8 → isI .i64 (v13 q) = true) ∧ (OOk ⟨iOf v11, v12, fun q => iOf (v13 q), ls iOf n14 f14, iOf v15, ls zw_ n16 f16⟩ ⟨iOf v6, iOf v7, iOf v8, iOf v9, iOf v10⟩ ⟨iOf v1, iOf v2, iOf v3, iOf v4, iOf v5⟩) ∧ (doE ⟨iOf v11, v12, fun q => iOf (v13 q), ls iOf n14 f14, iOf v15, ls zw_ n16 f16⟩ ⟨iOf v6, iOf v7, iOf v8, iOf v9, iOf v10⟩ ⟨iOf v1, iOf v2, iOf v3, iOf v4, iOf v5⟩ = 0) ∧ (iOf v1 = 8), .tup [sr (doS ⟨iOf v11, v12, fun q => iOf (v13 q), ls iOf n14 f14, iOf v15, ls zw_ n16 f16⟩ ⟨iOf v6, iOf v7, iOf v8, iOf v9, iOf v10⟩ ⟨iOf v1, iOf v2, iOf v3, iOf v4, iOf v5⟩) v14 (.sl m m [] 3 0 ((ls zw_ n16 f16).length + 1) none), .int .i64 0], r14 ++ r16, [(m, .own 177 (.arr ((ls zw_ n16 f16).length + 1) 3 (zm_ (doS ⟨iOf v11, v12, fun q => iOf (v13 q), ls iOf n14 f14, iOf v15, ls zw_ n16 f16⟩ ⟨iOf v6, iOf v7, iOf v8, iOf v9, iOf v10⟩ ⟨iOf v1, iOf v2, iOf v3, iOf v4, iOf v5⟩).sends)) false)]) else none
  | _, _ => none
 | _ => none
theorem sROne8_ok : zh_ Tryz.prog 86 sROne8 := by
 refine ⟨zf_ (by kernel_rfl), fun args h m c v rd wr hs hm hc w0 M β h' w R hrd hwr hst => ?_⟩
 unfold sROne8 at hs
 split at hs
 ·rename_i v1 v2 v3 v4 v5 v6 v7 v8 v9 v10 v11 v12 v13 v14 v15 v16
  split at hs
  ·rename_i c14 n14 f14 r14 c16 n16 f16 r16 a14 a16
   obtain ⟨hb, hs⟩ := zj_ hs
   simp only [Option.some.injEq, Prod.mk.injEq] at hs
   obtain ⟨rfl, rfl, rfl, rfl⟩ := hs
   simp only [Bool.and_eq_true] at hb
   obtain ⟨⟨⟨⟨⟨⟨⟨⟨⟨⟨⟨b1, b2⟩, b3⟩, b4⟩, b5⟩, b6⟩, b7⟩, b8⟩, b9⟩, b10⟩, b11⟩, b15⟩ := hb
   obtain ⟨k14, k16, g14, g16, g13, y1, y2, y3⟩ := hc
   have s14 : Stable h' v14 := by simp only [zd_, Stable] at hst; exact hst.2.2.1.2.2.2.1
   have s16 : Stable h' v16 := by simp only [zd_, Stable] at hst; exact hst.2.2.1.2.2.2.2.2.1
   obtain ⟨A14, p14, d14, e14, t14⟩ := zi_ R a14 k14 (fun i hi => hrd i (List.mem_append_left _ hi)) (by omega)
   obtain ⟨A16, p16, d16, e16, t16⟩ := zi_ R a16 k16 (fun i hi => hrd i (List.mem_append_right _ hi)) (by omega)
   refine callRoV (v' := .sl 5 5 [] 3 0 ((ls zw_ n16 f16).length + 1) none) (views := [⟨1, (ls iOf n14 f14).length, i64S (ls iOf n14 f14), A14, p14⟩, ⟨3, (ls zw_ n16 f16).length, zm_ (ls zw_ n16 f16), A16, p16⟩]) (one8_lit ⟨iOf v11, v12, fun q => iOf (v13 q), ls iOf n14 f14, iOf v15, ls zw_ n16 f16⟩ ⟨iOf v6, iOf v7, iOf v8, iOf v9, iOf v10⟩ ⟨iOf v1, iOf v2, iOf v3, iOf v4, iOf v5⟩ p14 p16 y1 y2 y3) ?_ R hm hwr ?_ ?_ ?_ ?_ ?_
   ·exact d37_
   ·exact d38_
   ·exact k74_
   ·exact k74_
   ·intro h2 hb2 hp2
    exact stable_sr (s14.more hb2) hp2
   ·intro β2 β' hv he hbo
    simp only [Vd, zb_, and_true] at hv
    obtain ⟨z14, z16⟩ := hv
    have u14 := (Stable.den hbo s14).symm.trans d14
    have u16 := (Stable.den hbo s16).symm.trans d16
    refine den_sr (by rw [u14]; simp only [csl, zb_]; exact z14) he
  ·cases hs
 ·cases hs
end Go.Proofs.YtjliakjbdcplcaaGreat.Vm
end
section
namespace Go.Proofs.YtjliakjbdcplcaaGreat.Vm
open Go.RowKit
attribute [local push_cast] prS zm_ i64S xm_ y4_ y3_ y2_ y1_ y0_ xl_ yz_ yy_ yx_ zl_ zz_ z2_ zy_ zq_ zr_ iOf
def beginR (a b c : Int) (j : Nat) : Int := match j with
 | 0 => a
 | 1 => b
 | 2 => c
 | _ => 0
theorem rbegin_lit (v tm_ src : Int) (cs : List Int) (p1 : Nat) (d : Int) (hm : cs.length ≤ 1000000) : zp_ Tryz.prog 38
  [.int .i64 v, .int .i64 tm_, .int .i64 src, .sl 1 2 [] 1 0 cs.length (some p1), .int .i64 d] [.gone, .gone, .ro (.arr cs.length 1 (i64S cs))]
  (.agg [.nat .i64 0, .bool false, .arr 8 1 (fun j => .int .i64 (beginR v tm_ src j)), .sl 3 3 [] 1 0 cs.length none, .int .i64 d, .sl 0 0 [] 0 0 0 (some 0)])
  [.gone, .gone, .gone, .own 2 (.arr cs.length 1 (i64S cs)) false] := by
 refine ze_ (fn := Tryz.f38) 3 27 0 rfl rfl rfl rfl rfl (by simp only [zd_, Stable, hp]; simp [HB.born]) rfl fun w0 M E hro => ?_
 repeat' (first | refine Ctl.h ?_ | ((with_reducible intro hif); first | (focus (cases hif; done)) | ((try simp only [JH] at hif); try (exfalso; omega))) | ((with_reducible first | apply J22 cR18_ok za_ | apply J23 fol cR18_ok za_ | apply J24); (·rfl); (· (simp only [push_cast, ↓JP, Nat.reduceAdd, Nat.reduceEqDiff, Nat.reduceLT, Nat.reduceMul, Nat.reduceLeDiff, reduceCtorEq, reduceIte, ↓JK, inN, inR, eq_self, List.all_nil]; rfl)); (try kernel_rfl); (try (focus (first | exact True.intro | ((try simp only [JS, implies_true, forall_const, yd_, z9_, kndOf, inN, inR]); (repeat' (first | assumption | exact True.intro | omega | apply And.intro)); done))))) | fail)
 apply At.endsPick [0, 1, 2, 5] za_ (fn := Tryz.f38) (rs := [.cell 10 105]) Anc.refl hro (lb_ rfl) rfl
 ·exact yq_
 ·exact k12_
 ·rfl
 ·rfl
 ·rfl
 ·(repeat' (first | exact trivial | exact .inl rfl | exact .inr (.same _) | exact .inr .loose | exact .inr (.arr (by assumption)) | apply And.intro | exact .inr (.arr fun q hq => rfl)))
 ·rfl
 ·exact k65_
 ·exact zx_
 ·exact fun β => rfl
 ·exact k65_
def xg_ : yt_ := fun args h m => match args with
 | [v1, v2, v3, v4, v5] => match xv_ h 1 (.tup []) v4 with
  | some (c4, n4, f4, r4) => bif isI .i64 v1 && isI .i64 v2 && isI .i64 v3 && isI .i64 v5 then some (c4 ∧ (∀ q, q < n4 → isI .i64 (f4 q) = true) ∧ (n4 ≤ 1000000), .agg [.nat .i64 0, .bool false, .arr 8 1 (fun j => .int .i64 (beginR (iOf v1) (iOf v2) (iOf v3) j)), .sl m m [] 1 0 (ls iOf n4 f4).length none, .int .i64 (iOf v5), .sl 0 0 [] 0 0 0 (some 0)], r4, [(m, .own 2 (.arr (ls iOf n4 f4).length 1 (i64S (ls iOf n4 f4))) false)]) else none
  | _ => none
 | _ => none
theorem sRBegin_ok : zh_ Tryz.prog 38 xg_ := by
 refine ⟨zf_ (by kernel_rfl), fun args h m c v rd wr hs hm hc w0 M β h' w R hrd hwr hst => ?_⟩
 unfold xg_ at hs
 split at hs
 ·rename_i v1 v2 v3 v4 v5
  split at hs
  ·rename_i c4 n4 f4 r4 a4
   obtain ⟨hb, hs⟩ := zj_ hs
   simp only [Option.some.injEq, Prod.mk.injEq] at hs
   obtain ⟨rfl, rfl, rfl, rfl⟩ := hs
   simp only [Bool.and_eq_true] at hb
   obtain ⟨⟨⟨b1, b2⟩, b3⟩, b5⟩ := hb
   obtain ⟨k4, g4, y1⟩ := hc
   obtain ⟨A4, p4, d4, e4, t4⟩ := zi_ R a4 k4 (fun i hi => hrd i hi) (by omega)
   refine ym_ (views := [⟨1, (ls iOf n4 f4).length, i64S (ls iOf n4 f4), A4, p4⟩]) (rbegin_lit (iOf v1) (iOf v2) (iOf v3) (ls iOf n4 f4) p4 (iOf v5) (by rw [zb_]; exact y1)) ?_ R hm hwr ?_ ?_ ?_
   ·intro x hx
    simp only [List.mem_cons, List.not_mem_nil, or_false] at hx
    subst hx
    ·exact yi_ t4 e4 g4
   ·intro β1 hv
    simp only [Vd, zb_, and_true] at hv
    have z4 := hv
    simp only [denL, yh_, yg_, yf_, zv_, zb_, z4, d4, zc_ b1, zc_ b2, zc_ b3, zc_ b5]
   ·exact k65_
   ·exact k65_
  ·cases hs
 ·cases hs
end Go.Proofs.YtjliakjbdcplcaaGreat.Vm
end
section
namespace Go.Proofs.YtjliakjbdcplcaaGreat.Vm
open Go.RowKit
attribute [local push_cast] prS zm_ i64S xm_ y4_ y3_ y2_ y1_ y0_ xl_ yz_ yy_ yx_ zl_ zz_ z2_ zy_ zq_ zr_ iOf sRCheck ls_prS ls_prS' inR inN
theorem lsI_raw (p : List Ins) : ls zo_ p.length (fun q => yr_ (p.getD q ⟨0, 0, 0, 0, 0⟩)) = p := ls_prS p
def cRt : FuncId → Option yt_ := y6_ [(85, sRCheck)]
theorem cRt_ok : ∀ f S, cRt f = some S → zh_ Tryz.prog f S := zn_ ⟨sRCheck_ok, trivial⟩
theorem right18_lit (p : List Ins) (v : Evi) (s : Sta) (p1 p2 p3 : Nat) (hok : ∀ x ∈ p, x.ok) (hl : p.length ≤ 1000000) (hc : s.cells.length ≤ 1000000) : zp_ Tryz.prog 39 [.sl 1 2 [] 5 0 p.length (some p1), evS v, sr s (.sl 3 4 [] 1 0 s.cells.length (some p2)) (.sl 5 6 [] 3 0 s.sends.length (some p3))] [.gone, .gone, .ro (.arr p.length 5 (prS p)), .gone, .ro (.arr s.cells.length 1 (i64S s.cells)), .gone, .ro (.arr s.sends.length 3 (zm_ s.sends))] (.int .i64 (yv_ p v s)) [.gone] := by
 simp only [evS, sr]
 by_cases h0 : (checkI p).2 = 0
 case neg =>
  rw [show yv_ p v s = 180 by rw [yv_, if_pos h0]]
  refine ze_ (fn := Tryz.f39) 7 70 0 rfl rfl rfl rfl rfl u7_ rfl fun w0 M E hro => ?_
  repeat' (first | refine Ctl.h ?_ | ((with_reducible intro hif); first | (focus (cases hif; done)) | ((try simp only [JH] at hif); try (exfalso; omega))) | ((with_reducible first | apply J22 cRt_ok za_ | apply J23 fol cRt_ok za_ | apply J24); (·rfl); (· (simp only [push_cast, ↓JP, Nat.reduceAdd, Nat.reduceEqDiff, Nat.reduceLT, Nat.reduceMul, Nat.reduceLeDiff, reduceCtorEq, reduceIte, ↓JK, cRt, lsI_raw, Int.cast_ofNat_Int, h0]; rfl)); (try kernel_rfl); try exact k76_) | fail)
  apply At.endsRet za_ (fn := Tryz.f39) (rs := [.tmp 6]) Anc.refl hro (lb_ rfl) rfl
  ·exact yq_
  ·exact ys_
  ·exact k6_
  ·rfl
  ·exact k75_
  ·exact zx_
  ·exact fun β => rfl
  ·exact k75_
 by_cases h1 : v.process < 0
 case pos =>
  rw [show yv_ p v s = 181 by rw [yv_, if_neg (by simp [h0]), if_pos u8_]]
  refine ze_ (fn := Tryz.f39) 7 70 0 rfl rfl rfl rfl rfl u7_ rfl fun w0 M E hro => ?_
  repeat' (first | refine Ctl.h ?_ | ((with_reducible intro hif); first | (focus (cases hif; done)) | ((try simp only [JH] at hif); try (exfalso; omega))) | ((with_reducible first | apply J22 cRt_ok za_ | apply J23 fol cRt_ok za_ | apply J24); (·rfl); (· (simp only [push_cast, ↓JP, Nat.reduceAdd, Nat.reduceEqDiff, Nat.reduceLT, Nat.reduceMul, Nat.reduceLeDiff, reduceCtorEq, reduceIte, ↓JK, cRt, lsI_raw, Int.cast_ofNat_Int, (eq_true h0), h1]; rfl)); (try kernel_rfl); try exact k76_) | fail)
  apply At.endsRet za_ (fn := Tryz.f39) (rs := [.tmp 6]) Anc.refl hro (lb_ rfl) rfl
  ·exact yq_
  ·exact ys_
  ·exact k6_
  ·rfl
  ·exact k75_
  ·exact zx_
  ·exact fun β => rfl
  ·exact k75_
 by_cases h2 : 65536 < v.process
 case pos =>
  rw [show yv_ p v s = 181 by rw [yv_, if_neg (by simp [h0]), if_pos u8_]]
  refine ze_ (fn := Tryz.f39) 7 70 0 rfl rfl rfl rfl rfl u7_ rfl fun w0 M E hro => ?_
  repeat' (first | refine Ctl.h ?_ | ((with_reducible intro hif); first | (focus (cases hif; done)) | ((try simp only [JH] at hif); try (exfalso; omega))) | ((with_reducible first | apply J22 cRt_ok za_ | apply J23 fol cRt_ok za_ | apply J24); (·rfl); (· (simp only [push_cast, ↓JP, Nat.reduceAdd, Nat.reduceEqDiff, Nat.reduceLT, Nat.reduceMul, Nat.reduceLeDiff, reduceCtorEq, reduceIte, ↓JK, cRt, lsI_raw, Int.cast_ofNat_Int, (eq_true h0), h1, h2]; rfl)); (try kernel_rfl); try exact k76_) | fail)
  apply At.endsRet za_ (fn := Tryz.f39) (rs := [.tmp 6]) Anc.refl hro (lb_ rfl) rfl
  ·exact yq_
  ·exact ys_
  ·exact k6_
  ·rfl
  ·exact k75_
  ·exact zx_
  ·exact fun β => rfl
  ·exact k75_
 by_cases h3 : v.ports < 0
 case pos =>
  rw [show yv_ p v s = 181 by rw [yv_, if_neg (by simp [h0]), if_pos u8_]]
  refine ze_ (fn := Tryz.f39) 7 70 0 rfl rfl rfl rfl rfl u7_ rfl fun w0 M E hro => ?_
  repeat' (first | refine Ctl.h ?_ | ((with_reducible intro hif); first | (focus (cases hif; done)) | ((try simp only [JH] at hif); try (exfalso; omega))) | ((with_reducible first | apply J22 cRt_ok za_ | apply J23 fol cRt_ok za_ | apply J24); (·rfl); (· (simp only [push_cast, ↓JP, Nat.reduceAdd, Nat.reduceEqDiff, Nat.reduceLT, Nat.reduceMul, Nat.reduceLeDiff, reduceCtorEq, reduceIte, ↓JK, cRt, lsI_raw, Int.cast_ofNat_Int, (eq_true h0), h1, h2, h3]; rfl)); (try kernel_rfl); try exact k76_) | fail)
  apply At.endsRet za_ (fn := Tryz.f39) (rs := [.tmp 6]) Anc.refl hro (lb_ rfl) rfl
  ·exact yq_
  ·exact ys_
  ·exact k6_
  ·rfl
  ·exact k75_
  ·exact zx_
  ·exact fun β => rfl
  ·exact k75_
 by_cases h4 : v.look ≤ 0
 case pos =>
  rw [show yv_ p v s = 181 by rw [yv_, if_neg (by simp [h0]), if_pos u8_]]
  refine ze_ (fn := Tryz.f39) 7 70 0 rfl rfl rfl rfl rfl u7_ rfl fun w0 M E hro => ?_
  repeat' (first | refine Ctl.h ?_ | ((with_reducible intro hif); first | (focus (cases hif; done)) | ((try simp only [JH] at hif); try (exfalso; omega))) | ((with_reducible first | apply J22 cRt_ok za_ | apply J23 fol cRt_ok za_ | apply J24); (·rfl); (· (simp only [push_cast, ↓JP, Nat.reduceAdd, Nat.reduceEqDiff, Nat.reduceLT, Nat.reduceMul, Nat.reduceLeDiff, reduceCtorEq, reduceIte, ↓JK, cRt, lsI_raw, Int.cast_ofNat_Int, (eq_true h0), h1, h2, h3, h4]; rfl)); (try kernel_rfl); try exact k76_) | fail)
  apply At.endsRet za_ (fn := Tryz.f39) (rs := [.tmp 6]) Anc.refl hro (lb_ rfl) rfl
  ·exact yq_
  ·exact ys_
  ·exact k6_
  ·rfl
  ·exact k75_
  ·exact zx_
  ·exact fun β => rfl
  ·exact k75_
 by_cases h5 : v.now < 0
 case pos =>
  rw [show yv_ p v s = 181 by rw [yv_, if_neg (by simp [h0]), if_pos u8_]]
  refine ze_ (fn := Tryz.f39) 7 70 0 rfl rfl rfl rfl rfl u7_ rfl fun w0 M E hro => ?_
  repeat' (first | refine Ctl.h ?_ | ((with_reducible intro hif); first | (focus (cases hif; done)) | ((try simp only [JH] at hif); try (exfalso; omega))) | ((with_reducible first | apply J22 cRt_ok za_ | apply J23 fol cRt_ok za_ | apply J24); (·rfl); (· (simp only [push_cast, ↓JP, Nat.reduceAdd, Nat.reduceEqDiff, Nat.reduceLT, Nat.reduceMul, Nat.reduceLeDiff, reduceCtorEq, reduceIte, ↓JK, cRt, lsI_raw, Int.cast_ofNat_Int, (eq_true h0), h1, h2, h3, h4, h5]; rfl)); (try kernel_rfl); try exact k76_) | fail)
  apply At.endsRet za_ (fn := Tryz.f39) (rs := [.tmp 6]) Anc.refl hro (lb_ rfl) rfl
  ·exact yq_
  ·exact ys_
  ·exact k6_
  ·rfl
  ·exact k75_
  ·exact zx_
  ·exact fun β => rfl
  ·exact k75_
 by_cases h6 : 281474976710656 < v.now
 case pos =>
  rw [show yv_ p v s = 181 by rw [yv_, if_neg (by simp [h0]), if_pos u8_]]
  refine ze_ (fn := Tryz.f39) 7 70 0 rfl rfl rfl rfl rfl u7_ rfl fun w0 M E hro => ?_
  repeat' (first | refine Ctl.h ?_ | ((with_reducible intro hif); first | (focus (cases hif; done)) | ((try simp only [JH] at hif); try (exfalso; omega))) | ((with_reducible first | apply J22 cRt_ok za_ | apply J23 fol cRt_ok za_ | apply J24); (·rfl); (· (simp only [push_cast, ↓JP, Nat.reduceAdd, Nat.reduceEqDiff, Nat.reduceLT, Nat.reduceMul, Nat.reduceLeDiff, reduceCtorEq, reduceIte, ↓JK, cRt, lsI_raw, Int.cast_ofNat_Int, (eq_true h0), h1, h2, h3, h4, h5, h6]; rfl)); (try kernel_rfl); try exact k76_) | fail)
  apply At.endsRet za_ (fn := Tryz.f39) (rs := [.tmp 6]) Anc.refl hro (lb_ rfl) rfl
  ·exact yq_
  ·exact ys_
  ·exact k6_
  ·rfl
  ·exact k75_
  ·exact zx_
  ·exact fun β => rfl
  ·exact k75_
 by_cases h7 : s.at_ < 0
 case pos =>
  rw [show yv_ p v s = 182 by rw [yv_, if_neg (by simp [h0]), if_neg u9_, if_pos u10_]]
  refine ze_ (fn := Tryz.f39) 7 70 0 rfl rfl rfl rfl rfl u7_ rfl fun w0 M E hro => ?_
  repeat' (first | refine Ctl.h ?_ | ((with_reducible intro hif); first | (focus (cases hif; done)) | ((try simp only [JH] at hif); try (exfalso; omega))) | ((with_reducible first | apply J22 cRt_ok za_ | apply J23 fol cRt_ok za_ | apply J24); (·rfl); (· (simp only [push_cast, ↓JP, Nat.reduceAdd, Nat.reduceEqDiff, Nat.reduceLT, Nat.reduceMul, Nat.reduceLeDiff, reduceCtorEq, reduceIte, ↓JK, cRt, lsI_raw, Int.cast_ofNat_Int, (eq_true h0), h1, h2, h3, h4, h5, h6, h7]; rfl)); (try kernel_rfl); try exact k76_) | fail)
  apply At.endsRet za_ (fn := Tryz.f39) (rs := [.tmp 6]) Anc.refl hro (lb_ rfl) rfl
  ·exact yq_
  ·exact ys_
  ·exact k6_
  ·rfl
  ·exact k75_
  ·exact zx_
  ·exact fun β => rfl
  ·exact k75_
 by_cases h8 : (p.length : Int) ≤ s.at_
 case pos =>
  rw [show yv_ p v s = 182 by rw [yv_, if_neg (by simp [h0]), if_neg u9_, if_pos u10_]]
  refine ze_ (fn := Tryz.f39) 7 70 0 rfl rfl rfl rfl rfl u7_ rfl fun w0 M E hro => ?_
  repeat' (first | refine Ctl.h ?_ | ((with_reducible intro hif); first | (focus (cases hif; done)) | ((try simp only [JH] at hif); try (exfalso; omega))) | ((with_reducible first | apply J22 cRt_ok za_ | apply J23 fol cRt_ok za_ | apply J24); (·rfl); (· (simp only [push_cast, ↓JP, Nat.reduceAdd, Nat.reduceEqDiff, Nat.reduceLT, Nat.reduceMul, Nat.reduceLeDiff, reduceCtorEq, reduceIte, ↓JK, cRt, lsI_raw, Int.cast_ofNat_Int, (eq_true h0), h1, h2, h3, h4, h5, h6, h7, h8]; rfl)); (try kernel_rfl); try exact k76_) | fail)
  apply At.endsRet za_ (fn := Tryz.f39) (rs := [.tmp 6]) Anc.refl hro (lb_ rfl) rfl
  ·exact yq_
  ·exact ys_
  ·exact k6_
  ·rfl
  ·exact k75_
  ·exact zx_
  ·exact fun β => rfl
  ·exact k75_
 by_cases h9 : 1024 < s.cells.length
 case pos =>
  rw [show yv_ p v s = 182 by rw [yv_, if_neg (by simp [h0]), if_neg u9_, if_pos u10_]]
  refine ze_ (fn := Tryz.f39) 7 70 0 rfl rfl rfl rfl rfl u7_ rfl fun w0 M E hro => ?_
  repeat' (first | refine Ctl.h ?_ | ((with_reducible intro hif); first | (focus (cases hif; done)) | ((try simp only [JH] at hif); try (exfalso; omega))) | ((with_reducible first | apply J22 cRt_ok za_ | apply J23 fol cRt_ok za_ | apply J24); (·rfl); (· (simp only [push_cast, ↓JP, Nat.reduceAdd, Nat.reduceEqDiff, Nat.reduceLT, Nat.reduceMul, Nat.reduceLeDiff, reduceCtorEq, reduceIte, ↓JK, cRt, lsI_raw, Int.cast_ofNat_Int, (eq_true h0), h1, h2, h3, h4, h5, h6, h7, h8, h9]; rfl)); (try kernel_rfl); try exact k76_) | fail)
  apply At.endsRet za_ (fn := Tryz.f39) (rs := [.tmp 6]) Anc.refl hro (lb_ rfl) rfl
  ·exact yq_
  ·exact ys_
  ·exact k6_
  ·rfl
  ·exact k75_
  ·exact zx_
  ·exact fun β => rfl
  ·exact k75_
 by_cases h10 : s.draws < 0
 case pos =>
  rw [show yv_ p v s = 182 by rw [yv_, if_neg (by simp [h0]), if_neg u9_, if_pos u10_]]
  refine ze_ (fn := Tryz.f39) 7 70 0 rfl rfl rfl rfl rfl u7_ rfl fun w0 M E hro => ?_
  repeat' (first | refine Ctl.h ?_ | ((with_reducible intro hif); first | (focus (cases hif; done)) | ((try simp only [JH] at hif); try (exfalso; omega))) | ((with_reducible first | apply J22 cRt_ok za_ | apply J23 fol cRt_ok za_ | apply J24); (·rfl); (· (simp only [push_cast, ↓JP, Nat.reduceAdd, Nat.reduceEqDiff, Nat.reduceLT, Nat.reduceMul, Nat.reduceLeDiff, reduceCtorEq, reduceIte, ↓JK, cRt, lsI_raw, Int.cast_ofNat_Int, (eq_true h0), h1, h2, h3, h4, h5, h6, h7, h8, h9, h10]; rfl)); (try kernel_rfl); try exact k76_) | fail)
  apply At.endsRet za_ (fn := Tryz.f39) (rs := [.tmp 6]) Anc.refl hro (lb_ rfl) rfl
  ·exact yq_
  ·exact ys_
  ·exact k6_
  ·rfl
  ·exact k75_
  ·exact zx_
  ·exact fun β => rfl
  ·exact k75_
 by_cases h11 : 1099511627776 < s.draws
 case pos =>
  rw [show yv_ p v s = 182 by rw [yv_, if_neg (by simp [h0]), if_neg u9_, if_pos u10_]]
  refine ze_ (fn := Tryz.f39) 7 70 0 rfl rfl rfl rfl rfl u7_ rfl fun w0 M E hro => ?_
  repeat' (first | refine Ctl.h ?_ | ((with_reducible intro hif); first | (focus (cases hif; done)) | ((try simp only [JH] at hif); try (exfalso; omega))) | ((with_reducible first | apply J22 cRt_ok za_ | apply J23 fol cRt_ok za_ | apply J24); (·rfl); (· exact k77_); (try kernel_rfl); try exact k76_) | fail)
  apply At.endsRet za_ (fn := Tryz.f39) (rs := [.tmp 6]) Anc.refl hro (lb_ rfl) rfl
  ·exact yq_
  ·exact ys_
  ·exact k6_
  ·rfl
  ·exact k75_
  ·exact zx_
  ·exact fun β => rfl
  ·exact k75_
 rw [show yv_ p v s = 0 by rw [yv_, if_neg (by simp [h0]), if_neg u9_, if_neg (by rw [Sta.rightB, decide_eq_true (by omega)]; decide)]]
 refine ze_ (fn := Tryz.f39) 7 70 0 rfl rfl rfl rfl rfl u7_ rfl fun w0 M E hro => ?_
 repeat' (first | refine Ctl.h ?_ | ((with_reducible intro hif); first | (focus (cases hif; done)) | ((try simp only [JH] at hif); try (exfalso; omega))) | ((with_reducible first | apply J22 cRt_ok za_ | apply J23 fol cRt_ok za_ | apply J24); (·rfl); (· exact k77_); (try kernel_rfl); try exact k76_) | fail)
 apply At.endsRet za_ (fn := Tryz.f39) (rs := [.tmp 6]) Anc.refl hro (lb_ rfl) rfl
 ·exact yq_
 ·exact ys_
 ·exact k6_
 ·rfl
 ·exact k75_
 ·exact zx_
 ·exact fun β => rfl
 ·exact k75_
end Go.Proofs.YtjliakjbdcplcaaGreat.Vm
end
section
namespace Go.Proofs.YtjliakjbdcplcaaGreat.Vm
open Go.RowKit
structure PG (P : List Ins) : Prop where
 ok : ∀ x ∈ P, x.ok
 chk : (checkI P).2 = 0
structure SG (P : List Ins) (s : Sta) : Prop where
 a0 : 0 ≤ s.at_
 a1 : s.at_ < P.length
 d0 : 0 ≤ s.draws
 d1 : s.draws ≤ 1099511627776
 c1 : s.cells.length ≤ 1024
 n1 : s.sends.length ≤ 1000000
theorem PG.len {P : List Ins} (h : PG P) : P.length ≤ 256 := (right_last' h.chk).2.1
theorem SG.sok {P : List Ins} {s : Sta} (h : SG P s) (hP : PG P) : SOk s := ⟨h.a0, by have := h.a1; have := hP.len; omega, h.d0, h.d1, h.c1, h.n1⟩
theorem SG.ri {P : List Ins} {s : Sta} (h : SG P s) (hP : PG P) : RI (insAt P s.at_) := ri_at hP.ok hP.chk (by have := h.a0; have := h.a1; omega)
theorem SG.of {P : List Ins} {s : Sta} (h : s.rightB P.length = true) (hn : s.sends.length ≤ 1000000) : SG P s := by
 have := of_decide_eq_true (show decide _ = true from h)
 exact ⟨by omega, by omega, by omega, by omega, by omega, hn⟩
theorem doS_good {P : List Ins} {s : Sta} {v : Evi} (h : SG P s) (hP : PG P) : SG P (doS s v (insAt P s.at_)) := by
 by_cases he : doE s v (insAt P s.at_) ≠ 0
 ·rw [doS_bad he]; exact h
 ·have hR := right_at hP.ok hP.chk (k := s.at_.toNat) (by have := h.a0; have := h.a1; omega)
  have hx : P.getD s.at_.toNat ⟨0, 0, 0, 0, 0⟩ = insAt P s.at_ := rfl
  rw [hx] at hR
  generalize insAt P s.at_ = x at *
  obtain ⟨a0, a1, d0, d1, c1, n1⟩ := h
  have hg := goesB_of hR.one
  have ht := targB_of hR.one
  have hgo : x.op ≠ 1 → x.op ≠ 2 → x.op ≠ 9 → s.at_ + 1 < P.length := fun h1 h2 h9 => by
   have := hR.goes (by rw [hg]; simp [h1, h2, h9])
   omega
  have hta : (x.op = 9 ∨ x.op = 10 ∨ x.op = 11) → 0 ≤ x.n ∧ x.n < P.length := fun hj => by
   have hb : targB x = true := by rw [ht]; rcases hj with e | e | e <;> simp [e]
   have := hR.targ hb
   unfold targV at this
   rwa [if_pos hb] at this
  have h2 : x.op ≠ 2 := fun e => he (by simp [doE, e])
  have hE : doE s v x = 0 := by omega
  have hP : ∀ k y, s.at_ + 1 < P.length → SG P (s.put k y) := fun k y h => ⟨by show 0 ≤ s.at_ + 1; omega, h, d0, d1, c1, n1⟩
  rcases hR.cls with q | q | q | q | q | q | q | q | q | q | q | q
  ·rw [show doS s v x = { s with ended := true } by simp [doS, hE, q]]; exact ⟨a0, a1, d0, d1, c1, n1⟩
  ·exact absurd q h2
  ·rw [show doS s v x = s.put x.a.toNat x.n by simp [doS, hE, q]]; exact hP _ _ (hgo (by omega) h2 (by omega))
  ·rw [show doS s v x = s.put x.a.toNat (s.regs x.b.toNat) by simp [doS, hE, q]]; exact hP _ _ (hgo (by omega) h2 (by omega))
  ·rw [show doS s v x = s.put x.a.toNat (s.cells.getD (s.regs x.b.toNat).toNat 0) by simp [doS, hE, q]]; exact hP _ _ (hgo (by omega) h2 (by omega))
  ·rw [show doS s v x = { s with cells := s.cells.set (s.regs x.b.toNat).toNat (s.regs x.a.toNat), at_ := s.at_ + 1 } by simp [doS, hE, q]]
   exact ⟨by show 0 ≤ s.at_ + 1; omega, hgo (by omega) h2 (by omega), d0, d1, by simpa using c1, n1⟩
  ·rw [show doS s v x = { s.put x.a.toNat (drawI v.seed v.process s.draws (s.regs x.b.toNat)) with draws := s.draws + 1 } by simp [doS, hE, q]]
   have hd : s.draws ≠ 1099511627776 := fun e => by
    have h3 : doE s v x = if s.regs x.b.toNat < 1 then 186 else if s.draws = 1099511627776 then 187 else 0 := by simp [doE, q]
    rw [hE, if_pos e] at h3
    split at h3 <;> omega
   exact ⟨by show 0 ≤ s.at_ + 1; omega, hgo (by omega) h2 (by omega), by show 0 ≤ s.draws + 1; omega, by show s.draws + 1 ≤ _; omega, c1, n1⟩
  ·rw [show doS s v x = { s with at_ := s.at_ + 1, sends := s.sends ++ [⟨x.n, s.regs x.a.toNat, s.regs x.b.toNat⟩] } by simp [doS, hE, q]]
   have hs : s.sends.length < 256 := by
    rcases Nat.lt_or_ge s.sends.length 256 with h' | h'
    ·exact h'
    ·exfalso
     have h3 : doE s v x = sendE s v x := by simp [doE, q]
     unfold sendE at h3
     rw [hE, if_pos h'] at h3
     split at h3
     ·omega
     ·split at h3
      ·omega
      ·split at h3 <;> omega
   exact ⟨by show 0 ≤ s.at_ + 1; omega, hgo (by omega) h2 (by omega), d0, d1, c1, by simp; omega⟩
  ·rw [show doS s v x = { s with at_ := x.n } by simp [doS, hE, q]]
   have := hta (.inl q); exact ⟨this.1, this.2, d0, d1, c1, n1⟩
  ·rw [show doS s v x = { s with at_ := if s.regs x.a.toNat = 0 then x.n else s.at_ + 1 } by simp [doS, hE, q]]
   have h3 := hta (.inr (.inl q))
   have h4 := hgo (by omega) h2 (by omega)
   refine ⟨?_, ?_, d0, d1, c1, n1⟩ <;> dsimp only <;> split <;> omega
  ·rw [show doS s v x = { s with at_ := if s.regs x.a.toNat < 0 then x.n else s.at_ + 1 } by simp [doS, hE, q]]
   have h3 := hta (.inr (.inr q))
   have h4 := hgo (by omega) h2 (by omega)
   refine ⟨?_, ?_, d0, d1, c1, n1⟩ <;> dsimp only <;> split <;> omega
  ·rw [show doS s v x = s.put x.a.toNat (yp_ (x.op - 32) (s.regs x.b.toNat) (s.regs x.c.toNat)) by
    unfold doS
    rw [hE]
    simp [show ¬ x.op = 1 by omega, show ¬ x.op = 3 by omega, show ¬ x.op = 4 by omega, show ¬ x.op = 5 by omega, show ¬ x.op = 6 by omega, show ¬ x.op = 7 by omega, show ¬ x.op = 8 by omega, show ¬ x.op = 9 by omega, show ¬ x.op = 10 by omega, show ¬ x.op = 11 by omega]]
   exact hP _ _ (hgo (by omega) h2 (by omega))
theorem stepS_good {P : List Ins} {s : Sta} {v : Evi} (h : SG P s) (hP : PG P) : SG P (stepS P v s) := by
 unfold stepS
 split
 ·exact h
 ·exact doS_good h hP
def stepX (P : List Ins) (s : Sta) (x : Ins) : Ins := if s.ended = true then x else insAt P s.at_
structure RR where
 tr : List Int
 at_ : Int
 bad : Int
 s : Sta
 x : Ins
def xp_ (P : List Ins) (v : Evi) : Nat → Sta → Ins → List Int → Int → RR
 | 0, s, x, tr, a => if s.ended = true then ⟨tr, a, 0, s, x⟩ else ⟨tr, s.at_, 190, s, x⟩
 | n + 1, s, x, tr, a => if s.ended = true then ⟨tr, a, 0, s, x⟩ else
  if stepE P v s = 0 then xp_ P v n (stepS P v s) (stepX P s x) (tr ++ [s.at_]) s.at_ else ⟨tr ++ [s.at_], s.at_, stepE P v s, stepS P v s, stepX P s x⟩
theorem runA_end {P : List Ins} {v : Evi} {n : Nat} {s : Sta} {x : Ins} {tr : List Int} {a : Int} (h : s.ended = true) : xp_ P v n s x tr a = ⟨tr, a, 0, s, x⟩ := by
 cases n <;> simp [xp_, h]
theorem runA_zero {P : List Ins} {v : Evi} {s : Sta} {x : Ins} {tr : List Int} {a : Int} (h : s.ended = false) : xp_ P v 0 s x tr a = ⟨tr, s.at_, 190, s, x⟩ := by simp [xp_, h]
theorem runA_go {P : List Ins} {v : Evi} {n : Nat} {s : Sta} {x : Ins} {tr : List Int} {a : Int} (h : s.ended = false) (hn : 0 < n) (he : stepE P v s = 0) : xp_ P v n s x tr a = xp_ P v (n - 1) (stepS P v s) (stepX P s x) (tr ++ [s.at_]) s.at_ := by
 obtain ⟨n, rfl⟩ : ∃ k, n = k + 1 := ⟨n - 1, by omega⟩
 simp [xp_, h, he]
theorem runA_bad {P : List Ins} {v : Evi} {n : Nat} {s : Sta} {x : Ins} {tr : List Int} {a : Int} (h : s.ended = false) (hn : 0 < n) (he : stepE P v s ≠ 0) : xp_ P v n s x tr a = ⟨tr ++ [s.at_], s.at_, stepE P v s, stepS P v s, stepX P s x⟩ := by
 obtain ⟨n, rfl⟩ : ∃ k, n = k + 1 := ⟨n - 1, by omega⟩
 simp [xp_, h, he]
theorem wrongE_vals (op b : Int) : yk_ op b = 0 ∨ yk_ op b = 130 ∨ yk_ op b = 131 := by
 unfold yk_
 split
 ·omega
 ·split <;> omega
theorem doE_ne190 (s : Sta) (v : Evi) (x : Ins) : doE s v x ≠ 190 := by
 unfold doE sendE
 have := wrongE_vals (x.op - 32) (s.regs x.c.toNat)
 repeat' split
 all_goals omega
theorem stepE_ne190 (P : List Ins) (v : Evi) (s : Sta) : stepE P v s ≠ 190 := by
 unfold stepE
 split
 ·omega
 ·exact doE_ne190 _ _ _
def rrE (f : Int) : Int := if f < 0 ∨ 4096 < f then 2 else 0
def begR (value time source : Int) : Nat → Int := fun q => if q = 2 then source else if q = 1 then time else if q = 0 then value else 0
def xn_ (value time source : Int) (cells : List Int) (draws : Int) : Sta := ⟨0, false, begR value time source, cells, draws, []⟩
def ropE (P : List Ins) (v : Evi) (s : Sta) (f : Int) : Int := if rrE f = 0 then yv_ P v s else rrE f
def runO (P : List Ins) (v : Evi) (s : Sta) (f : Int) : RR := if ropE P v s f = 0 then xp_ P v f.toNat s Ins0 [] 0 else ⟨[], 0, ropE P v s f, zeroSt, Ins0⟩
theorem ropE_zero {P : List Ins} {v : Evi} {s : Sta} {f : Int} (h : ropE P v s f = 0) : (0 ≤ f ∧ f ≤ 4096) ∧ yv_ P v s = 0 := by
 unfold ropE at h
 by_cases q : rrE f = 0
 ·rw [if_pos q] at h
  refine ⟨?_, h⟩
  unfold rrE at q
  split at q <;> omega
 ·rw [if_neg q] at h; exact absurd h q
theorem openE_zero {P : List Ins} {v : Evi} {s : Sta} (h : yv_ P v s = 0) : (checkI P).2 = 0 ∧ v.rightB = true ∧ s.rightB P.length = true := by
 unfold yv_ at h
 have q1 : (checkI P).2 = 0 := by
  by_cases q : (checkI P).2 = 0
  ·exact q
  ·rw [if_pos q] at h; cases h
 rw [if_neg (fun h => h q1)] at h
 have q2 : v.rightB = true := by
  cases q : v.rightB
  ·rw [if_pos q] at h; cases h
  ·rfl
 rw [if_neg (by rw [q2]; exact Bool.noConfusion)] at h
 refine ⟨q1, q2, ?_⟩
 cases q : s.rightB P.length
 ·rw [if_pos q] at h; cases h
 ·rfl
end Go.Proofs.YtjliakjbdcplcaaGreat.Vm
end

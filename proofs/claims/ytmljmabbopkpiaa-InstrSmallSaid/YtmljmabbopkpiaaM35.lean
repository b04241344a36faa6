import Derived.Test.YtmljmabbopkpiaaM1
import Derived.Test.YtmljmabbopkpiaaM32
import Derived.Test.YtmljmabbopkpiaaM34
set_option linter.unusedSimpArgs false
set_option linter.unusedVariables false
set_option maxRecDepth 100000
set_option maxHeartbeats 4000000
section
namespace Go.Proofs.Ytmljmabbopkpiaa.Vm
open Go.RowKit
attribute [local push_cast] prS zm_ zo_ nav_ins xe_ xd_ xc_ xb_ xa_ nav_snd y9_ y8_ y7_ zu_ z7_ yf_ z5_ ya_ z9_ iOf JE inR inN
def sTh18 : yp_ := fun args h m => match args with
 | [.agg [v1, .bool v2, .arr 8 1 v3, v4, v5, v6]] => match y6_ h 1 (.tup []) v4, y6_ h 3 (.tup []) v6 with
  | some (c4, n4, f4, r4), some (c6, n6, f6, r6) => bif isI .i64 v1 && isI .i64 v5 then some (c4 ∧ c6 ∧ (∀ q, q < n4 → isI .i64 (f4 q) = true) ∧ (∀ q, q < n6 → isSnd (f6 q) = true) ∧ (∀ q, q < 8 → isI .i64 (v3 q) = true) ∧ (n4 ≤ 1000000) ∧ (n6 ≤ 1000000), sr ⟨(iOf v1), v2, (fun q => iOf (v3 q)), (ls iOf n4 f4), (iOf v5), (ls zn_ n6 f6)⟩ (.sl m m [] 1 0 (ls iOf n4 f4).length none) (.sl (m + 1) (m + 1) [] 3 0 (ls zn_ n6 f6).length none), r4 ++ r6, [(m, cRf (ls iOf n4 f4)), (m + 1, sRf (ls zn_ n6 f6))]) else none
  | _, _ => none
 | _ => none
theorem sTh18_ok : zj_ Try.prog 65 sTh18 := by
 refine ⟨zi_ (by kernel_rfl), fun args h m c v rd wr hs hm hc w0 M β h' w R hrd hwr hst => ?_⟩
 unfold sTh18 at hs
 split at hs
 ·rename_i v1 v2 v3 v4 v5 v6
  split at hs
  ·rename_i c4 n4 f4 r4 c6 n6 f6 r6 a4 a6
   obtain ⟨hb, hs⟩ := zl_ hs
   simp only [Option.some.injEq, Prod.mk.injEq] at hs
   obtain ⟨rfl, rfl, rfl, rfl⟩ := hs
   simp only [Bool.and_eq_true] at hb
   obtain ⟨b1, b5⟩ := hb
   obtain ⟨k4, k6, g4, g6, g3, y1, y2⟩ := hc
   obtain ⟨A4, p4, d4, e4, t4⟩ := zg_ R a4 k4 (fun i hi => hrd i (List.mem_append_left _ hi)) (by omega)
   obtain ⟨A6, p6, d6, e6, t6⟩ := zg_ R a6 k6 (fun i hi => hrd i (List.mem_append_right _ hi)) (by omega)
   refine yl_ (views := [⟨1, (ls iOf n4 f4).length, zo_ (ls iOf n4 f4), A4, p4⟩, ⟨3, (ls zn_ n6 f6).length, zm_ (ls zn_ n6 f6), A6, p6⟩]) (th18_lit ⟨(iOf v1), v2, (fun q => iOf (v3 q)), (ls iOf n4 f4), (iOf v5), (ls zn_ n6 f6)⟩ p4 p6 (by rw [zc_]; exact y1) (by rw [zc_]; exact y2)) ?_ R hm hwr ?_ ?_ ?_
   ·exact d36_
   ·intro β1 hv
    simp only [Vd, zc_, and_true] at hv
    obtain ⟨z4, z6⟩ := hv
    simp only [denL, z4_, z3_, yd_, zs_, zc_, yo_, evS, sr, csl, ssl, z4, z6, d4, d6, zd_ b1, zd_ b5, ← r8Den (β := β) (β1 := β1) g3]
   ·exact k117_
   ·exact k117_
  ·cases hs
 ·cases hs
def sISm : yp_ := fun args h m => match args with
 | [.agg [v1, .bool v2, .arr 8 1 v3, v4, v5, v6], .agg [v7, .bool v8, .arr 8 1 v9, v10, v11, v12]] => match y6_ h 1 (.tup []) v4, y6_ h 3 (.tup []) v6, y6_ h 1 (.tup []) v10, y6_ h 3 (.tup []) v12 with
  | some (c4, n4, f4, r4), some (c6, n6, f6, r6), some (c10, n10, f10, r10), some (c12, n12, f12, r12) => bif isI .i64 v1 && isI .i64 v5 && isI .i64 v7 && isI .i64 v11 then some (c4 ∧ c6 ∧ c10 ∧ c12 ∧ (∀ q, q < n4 → isI .i64 (f4 q) = true) ∧ (∀ q, q < n6 → isSnd (f6 q) = true) ∧ (∀ q, q < n10 → isI .i64 (f10 q) = true) ∧ (∀ q, q < n12 → isSnd (f12 q) = true) ∧ (∀ q, q < 8 → isI .i64 (v3 q) = true) ∧ (∀ q, q < 8 → isI .i64 (v9 q) = true) ∧ (n4 ≤ 1000000) ∧ (n6 ≤ 1000000) ∧ (n10 ≤ 1000000) ∧ (n12 ≤ 1000000), .bool (sameB ⟨(iOf v1), v2, (fun q => iOf (v3 q)), (ls iOf n4 f4), (iOf v5), (ls zn_ n6 f6)⟩ ⟨(iOf v7), v8, (fun q => iOf (v9 q)), (ls iOf n10 f10), (iOf v11), (ls zn_ n12 f12)⟩), r4 ++ r6 ++ r10 ++ r12, []) else none
  | _, _, _, _ => none
 | _ => none
theorem sISm_ok : zj_ Try.prog 30 sISm := by
 refine ⟨zi_ (by kernel_rfl), fun args h m c v rd wr hs hm hc w0 M β h' w R hrd hwr hst => ?_⟩
 unfold sISm at hs
 split at hs
 ·rename_i v1 v2 v3 v4 v5 v6 v7 v8 v9 v10 v11 v12
  split at hs
  ·rename_i c4 n4 f4 r4 c6 n6 f6 r6 c10 n10 f10 r10 c12 n12 f12 r12 a4 a6 a10 a12
   obtain ⟨hb, hs⟩ := zl_ hs
   simp only [Option.some.injEq, Prod.mk.injEq] at hs
   obtain ⟨rfl, rfl, rfl, rfl⟩ := hs
   simp only [Bool.and_eq_true] at hb
   obtain ⟨⟨⟨b1, b5⟩, b7⟩, b11⟩ := hb
   obtain ⟨k4, k6, k10, k12, g4, g6, g10, g12, g3, g9, y1, y2, y3, y4⟩ := hc
   obtain ⟨A4, p4, d4, e4, t4⟩ := zg_ R a4 k4 (fun i hi => hrd i (List.mem_append_left _ (List.mem_append_left _ (List.mem_append_left _ hi)))) (by omega)
   obtain ⟨A6, p6, d6, e6, t6⟩ := zg_ R a6 k6 (fun i hi => hrd i (List.mem_append_left _ (List.mem_append_left _ (List.mem_append_right _ hi)))) (by omega)
   obtain ⟨A10, p10, d10, e10, t10⟩ := zg_ R a10 k10 (fun i hi => hrd i (List.mem_append_left _ (List.mem_append_right _ hi))) (by omega)
   obtain ⟨A12, p12, d12, e12, t12⟩ := zg_ R a12 k12 (fun i hi => hrd i (List.mem_append_right _ hi)) (by omega)
   refine yl_ (views := [⟨1, (ls iOf n4 f4).length, zo_ (ls iOf n4 f4), A4, p4⟩, ⟨3, (ls zn_ n6 f6).length, zm_ (ls zn_ n6 f6), A6, p6⟩, ⟨1, (ls iOf n10 f10).length, zo_ (ls iOf n10 f10), A10, p10⟩, ⟨3, (ls zn_ n12 f12).length, zm_ (ls zn_ n12 f12), A12, p12⟩]) (isame18_lit ⟨(iOf v1), v2, (fun q => iOf (v3 q)), (ls iOf n4 f4), (iOf v5), (ls zn_ n6 f6)⟩ ⟨(iOf v7), v8, (fun q => iOf (v9 q)), (ls iOf n10 f10), (iOf v11), (ls zn_ n12 f12)⟩ p4 p6 p10 p12 (by rw [zc_]; exact y1) (by rw [zc_]; exact y2) (by rw [zc_]; exact y3) (by rw [zc_]; exact y4)) ?_ R hm hwr ?_ ?_ ?_
   ·exact d41_
   ·intro β1 hv
    simp only [Vd, zc_, and_true] at hv
    obtain ⟨z4, z6, z10, z12⟩ := hv
    simp only [denL, z4_, z3_, yd_, zs_, zc_, yo_, evS, sr, csl, ssl, z4, z6, z10, z12, d4, d6, d10, d12, zd_ b1, zd_ b5, zd_ b7, zd_ b11, ← r8Den (β := β) (β1 := β1) g3, ← r8Den (β := β) (β1 := β1) g9]
   ·exact k117_
   ·exact k117_
  ·cases hs
 ·cases hs
theorem bun_own1 {ρ : Nat → Nat} {h' : HM} {z t n : Nat} {cf : Nat → SV} (e : h' z = .own t (.arr n 1 cf) false) (hcf : ∀ q, q < n → isI .i64 (cf q) = true) : Bun1 ρ (h' z) (.own t (.arr (ls iOf n cf).length 1 (zo_ (ls iOf n cf))) false) := by
 rw [zc_]
 show Less (h' z) (.own t (.arr n 1 (zo_ (ls iOf n cf))) false)
 rw [e]
 refine .val (fun β => arrCl fun q hq => ?_) (fun n k f e => by injection e with e1 e2 e3; subst e1 e2; exact ⟨_, rfl⟩) (fun n k f e => by injection e with e1 e2 e3; subst e1 e2; exact ⟨_, rfl⟩)
 rw [isI_cl (hcf q hq)]
 show _ = [Value.int .i64 ((ls iOf n cf).getD q 0)]
 rw [ls_getD hq]
theorem bun_own3 {ρ : Nat → Nat} {h' : HM} {z t n : Nat} {cf : Nat → SV} (e : h' z = .own t (.arr n 3 cf) false) (hcf : ∀ q, q < n → isSnd (cf q) = true) : Bun1 ρ (h' z) (.own t (.arr (ls zn_ n cf).length 3 (zm_ (ls zn_ n cf))) false) := by
 rw [zc_]
 show Less (h' z) (.own t (.arr n 3 fun q => (zm_ (ls zn_ n cf) q).ren ρ) false)
 rw [e, sndsS_ren]
 refine .val (fun β => arrCl fun q hq => ?_) (fun n k f e => by injection e with e1 e2 e3; subst e1 e2; exact ⟨_, rfl⟩) (fun n k f e => by injection e with e1 e2 e3; subst e1 e2; exact ⟨_, rfl⟩)
 unfold zm_
 rw [ls_getD hq, isSnd_cl (hcf q hq), isSnd_cl (yf_ _), z5_]
def sSpl : yp_ := fun args h m => match args with
 | [.agg [a, .bool e, .arr 8 1 r, .sl z i [] 1 0 n none, d, .sl z2 j [] 3 0 n2 none]] => match h i, h j with
  | .own t1 (.arr n1 1 cf) false, .own t2 (.arr m2 3 sf) false => bif (isI .i64 a && isI .i64 d) && (Nat.beq t1 2 && Nat.beq t2 64) && (Nat.beq z i && Nat.beq z2 j && Nat.beq n1 n && Nat.beq m2 n2) && nodupN [0, i, j] then
    some ((∀ q, q < 8 → isI .i64 (r q) = true) ∧ ((∀ q, q < n → isI .i64 (cf q) = true) ∧ (∀ q, q < n2 → isSnd (sf q) = true)) ∧ n ≤ 1000000 ∧ n2 ≤ 1000000, .tup [], [i, j], [(i, .gone), (j, .gone)]) else none
  | _, _ => none
 | [.agg [a, .bool e, .arr 8 1 r, .sl z i [] 1 0 n none, d, .sl 0 0 [] 0 0 0 (some 0)]] => match h i with
  | .own t1 (.arr n1 1 cf) false => bif (isI .i64 a && isI .i64 d) && Nat.beq t1 2 && (Nat.beq z i && Nat.beq n1 n) && nodupN [0, i] then
    some ((∀ q, q < 8 → isI .i64 (r q) = true) ∧ (∀ q, q < n → isI .i64 (cf q) = true) ∧ n ≤ 1000000, .tup [], [i], [(i, .gone)]) else none
  | _ => none
 | [.agg [a, .bool e, .arr 8 1 r, .sl 0 0 [] 0 0 0 (some 0), d, .sl 0 0 [] 0 0 0 (some 0)]] => bif isI .i64 a && isI .i64 d then some (∀ q, q < 8 → isI .i64 (r q) = true, .tup [], [], []) else none
 | _ => none
theorem sSpl_ok : zj_ Try.prog 69 sSpl := by
 refine ⟨zi_ (by kernel_rfl), fun args h m c v rd wr hs hm hc w0 M β h' w R hrd hwr hst => ?_⟩
 unfold sSpl at hs
 split at hs
 ·rename_i a e r z i n d z2 j n2
  split at hs
  ·rename_i t1 n1 cf t2 m2 sf hi hj
   obtain ⟨hb, hs⟩ := zl_ hs
   simp only [Option.some.injEq, Prod.mk.injEq] at hs
   obtain ⟨rfl, rfl, rfl, rfl⟩ := hs
   simp only [Bool.and_eq_true] at hb
   obtain ⟨⟨⟨⟨ba, bd⟩, b1, b2⟩, ⟨⟨⟨b3, b4⟩, b5⟩, b6⟩⟩, hnd⟩ := hb
   have b1 := Nat.eq_of_beq_eq_true b1
   have b2 := Nat.eq_of_beq_eq_true b2
   have b3 := Nat.eq_of_beq_eq_true b3
   have b4 := Nat.eq_of_beq_eq_true b4
   have b5 := Nat.eq_of_beq_eq_true b5
   have b6 := Nat.eq_of_beq_eq_true b6
   subst b1 b2 b3 b4 b5 b6
   obtain ⟨gr, ⟨hcf, hsf⟩, hn1, hn2⟩ := hc
   have ei := hrd z (by simp)
   have ej := hrd z2 (by simp)
   rw [show denL β [.agg [a, .bool e, .arr 8 1 r, .sl z z [] 1 0 n1 none, d, .sl z2 z2 [] 3 0 m2 none]] = denL β [.agg [.int .i64 (iOf a), .bool e, .arr 8 1 (fun q => .int .i64 (iOf (r q))), .sl z z [] 1 0 n1 none, .int .i64 (iOf d), .sl z2 z2 [] 3 0 m2 none]] from by simp only [denL, z4_, zs_, z3_, zd_ ba, zd_ bd, r8Den (β := β) (β1 := β) gr]]
   exact bun_ok (h := h) (m := m) [0, z, z2] (spl_oo (ls iOf n1 cf) (ls zn_ m2 sf) (iOf a) (iOf d) e (fun q => iOf (r q)) (by rw [zc_]; exact hn1) (by rw [zc_]; exact hn2)) R rfl (by simp) rfl rfl hnd
    ⟨Fit.gone (by rw [R.nil0]; rfl), bun_own1 (ei.trans hi) hcf, bun_own3 (ej.trans hj) hsf, trivial⟩ hm
    (fun p hp => by cases hp) (by simp) rfl
    ⟨trivial, fun q => i64S_stable q, fun q => sndsS_stable q, trivial⟩ (by simp [ze_, zb_, hp, HB.born])
    ⟨trivial, trivial, trivial, trivial⟩ trivial (by simp only [zc_]; rfl) rfl rfl
  ·cases hs
 ·rename_i a e r z i n d
  split at hs
  ·rename_i t1 n1 cf hi
   obtain ⟨hb, hs⟩ := zl_ hs
   simp only [Option.some.injEq, Prod.mk.injEq] at hs
   obtain ⟨rfl, rfl, rfl, rfl⟩ := hs
   simp only [Bool.and_eq_true] at hb
   obtain ⟨⟨⟨⟨ba, bd⟩, b1⟩, b3, b5⟩, hnd⟩ := hb
   have b1 := Nat.eq_of_beq_eq_true b1
   have b3 := Nat.eq_of_beq_eq_true b3
   have b5 := Nat.eq_of_beq_eq_true b5
   subst b1 b3 b5
   obtain ⟨gr, hcf, hn1⟩ := hc
   have ei := hrd z (by simp)
   rw [show denL β [.agg [a, .bool e, .arr 8 1 r, .sl z z [] 1 0 n1 none, d, .sl 0 0 [] 0 0 0 (some 0)]] = denL β [.agg [.int .i64 (iOf a), .bool e, .arr 8 1 (fun q => .int .i64 (iOf (r q))), .sl z z [] 1 0 n1 none, .int .i64 (iOf d), .sl 0 0 [] 0 0 0 (some 0)]] from by simp only [denL, z4_, zs_, z3_, zd_ ba, zd_ bd, r8Den (β := β) (β1 := β) gr]]
   exact bun_ok (h := h) (m := m) [0, z] (spl_on (ls iOf n1 cf) (iOf a) (iOf d) e (fun q => iOf (r q)) (by rw [zc_]; exact hn1)) R rfl (by simp) rfl rfl hnd
    ⟨Fit.gone (by rw [R.nil0]; rfl), bun_own1 (ei.trans hi) hcf, trivial⟩ hm
    (fun p hp => by cases hp) (by simp) rfl
    ⟨trivial, fun q => i64S_stable q, trivial⟩ (by simp [ze_, zb_, hp, HB.born])
    ⟨trivial, trivial, trivial⟩ trivial (by simp only [zc_]; rfl) rfl rfl
  ·cases hs
 ·rename_i a e r d
  obtain ⟨hb, hs⟩ := zl_ hs
  simp only [Option.some.injEq, Prod.mk.injEq] at hs
  obtain ⟨rfl, rfl, rfl, rfl⟩ := hs
  simp only [Bool.and_eq_true] at hb
  obtain ⟨ba, bd⟩ := hb
  rw [show denL β [.agg [a, .bool e, .arr 8 1 r, .sl 0 0 [] 0 0 0 (some 0), d, .sl 0 0 [] 0 0 0 (some 0)]] = denL β [.agg [.int .i64 (iOf a), .bool e, .arr 8 1 (fun q => .int .i64 (iOf (r q))), .sl 0 0 [] 0 0 0 (some 0), .int .i64 (iOf d), .sl 0 0 [] 0 0 0 (some 0)]] from by simp only [denL, z4_, zs_, z3_, zd_ ba, zd_ bd, r8Den (β := β) (β1 := β) hc]]
  exact bun_ok (h := h) (m := m) [0] (spl_nn (iOf a) (iOf d) e (fun q => iOf (r q))) R rfl (by simp) rfl rfl rfl
   ⟨Fit.gone (by rw [R.nil0]; rfl), trivial⟩ hm (fun p hp => by cases hp) (by simp) rfl
   ⟨trivial, trivial⟩ (by simp [ze_, zb_, hp, HB.born]) ⟨trivial, trivial⟩ trivial rfl rfl rfl
 ·cases hs
theorem begin_R (a b c : Int) : beginR a b c = begR a b c := by
 funext j
 rcases j with _ | _ | _ | j
 ·rfl
 ·rfl
 ·rfl
 ·show (0 : Int) = if j + 3 = 2 then c else if j + 3 = 1 then b else if j + 3 = 0 then a else 0
  rw [if_neg (by omega), if_neg (by omega), if_neg (by omega)]
theorem begin_R' (a b c : Int) : (fun j => beginR a b c j) = begR a b c := begin_R a b c
theorem sameB_rf (s : Sta) : sameB s s = true := by simp [sameB, regsB]
def cTeE : FuncId → Option yp_ := yy_ [(32, sClI), (65, sTh18), (67, sTh14), (68, sRSame), (30, sISm), (69, sSpl), (59, sBegin), (70, sRBegin), (71, sEqIns), (31, sIDoB), (66, sRDoE)]
theorem cTeE_ok : ∀ f S, cTeE f = some S → zj_ Try.prog f S := zq_ ⟨sClI_ok, sTh18_ok, sTh14_ok, sRSame_ok, sISm_ok, sSpl_ok, sBegin_ok, sRBegin_ok, sEqIns_ok, sIDoB_ok, sRDoE_ok, trivial⟩
def cTeX : FuncId → Option yp_ := yy_ [(32, sClI), (65, sTh18), (67, sTh14), (68, sRSame), (30, sISm), (69, sSpl), (59, sBegin), (70, sRBegin), (71, sEqIns), (31, sIDoG), (66, sRDoX)]
theorem cTeX_ok : ∀ f S, cTeX f = some S → zj_ Try.prog f S := zq_ ⟨sClI_ok, sTh18_ok, sTh14_ok, sRSame_ok, sISm_ok, sSpl_ok, sBegin_ok, sRBegin_ok, sEqIns_ok, sIDoG_ok, sRDoX_ok, trivial⟩
def cTe6 : FuncId → Option yp_ := yy_ [(32, sClI), (65, sTh18), (67, sTh14), (68, sRSame), (30, sISm), (69, sSpl), (59, sBegin), (70, sRBegin), (71, sEqIns), (31, sIDoG), (66, sRDo6)]
theorem cTe6_ok : ∀ f S, cTe6 f = some S → zj_ Try.prog f S := zq_ ⟨sClI_ok, sTh18_ok, sTh14_ok, sRSame_ok, sISm_ok, sSpl_ok, sBegin_ok, sRBegin_ok, sEqIns_ok, sIDoG_ok, sRDo6_ok, trivial⟩
def cTe8 : FuncId → Option yp_ := yy_ [(32, sClI), (65, sTh18), (67, sTh14), (68, sRSame), (30, sISm), (69, sSpl), (59, sBegin), (70, sRBegin), (71, sEqIns), (31, sIDoG), (66, sRDo8)]
theorem cTe8_ok : ∀ f S, cTe8 f = some S → zj_ Try.prog f S := zq_ ⟨sClI_ok, sTh18_ok, sTh14_ok, sRSame_ok, sISm_ok, sSpl_ok, sBegin_ok, sRBegin_ok, sEqIns_ok, sIDoG_ok, sRDo8_ok, trivial⟩
theorem tells18_lit (P : List Ins) (v : Evi) (s t : Sta) (et es eq eo ey : Int) (p1 p2 p3 p4 p5 : Nat) (hok : ∀ x ∈ P, x.ok) (hg : ∀ q, R64 (s.regs q)) : zp_ Try.prog 28 [.sl 1 2 [] 5 0 P.length (some p1), .agg [.int .u64 v.seed, .int .i64 v.process, .int .i64 v.ports, .int .i64 v.look, .int .i64 v.now], .agg [.int .i64 s.at_, .bool s.ended, .arr 8 1 (fun q => .int .i64 (s.regs q)), .sl 3 4 [] 1 0 s.cells.length (some p2), .int .i64 s.draws, .sl 5 6 [] 3 0 s.sends.length (some p3)], .agg [.int .i64 t.at_, .bool t.ended, .arr 8 1 (fun q => .int .i64 (t.regs q)), .sl 7 8 [] 1 0 t.cells.length (some p4), .int .i64 t.draws, .sl 9 10 [] 3 0 t.sends.length (some p5)], .agg [.agg [.int .i64 et, .int .i64 es, .int .i64 eq], .int .i64 eo, .int .i64 ey]]
  [.gone, .gone, .ro (.arr P.length 5 (prS P)), .gone, .ro (.arr s.cells.length 1 (zo_ s.cells)), .gone, .ro (.arr s.sends.length 3 (zm_ s.sends)), .gone, .ro (.arr t.cells.length 1 (zo_ t.cells)), .gone, .ro (.arr t.sends.length 3 (zm_ t.sends))] (.bool true) [.gone] := by
 by_cases h1 : 60 < P.length
 case pos =>
  refine zf_ (fn := Try.f28) 11 134 0 rfl rfl rfl rfl rfl u21_ rfl fun w0 M E hro => ?_
  repeat' (first | refine Ctl.h ?_ | ((with_reducible intro hif); first | (focus (cases hif; done)) | ((try simp only [JH] at hif); try (exfalso; omega))) | ((with_reducible first | apply J22 cTeE_ok za_ | apply J23 fol cTeE_ok za_ | apply J24); (·rfl); (· (simp only [push_cast, ↓JP, Nat.reduceAdd, Nat.reduceEqDiff, Nat.reduceLT, Nat.reduceMul, Nat.reduceLeDiff, reduceCtorEq, reduceIte, ↓JK, cTeE, sRDoE, JM, sClI, sTh18, sTh14, sRSame, sISm, sSpl, sBegin, sRBegin, sEqIns, sIDoG, sIDoB, sr, evS, stS, cRf, sRf, cB, sB, prT, ym_, nilS, nodupN, memN, zu_, zc_, ls_nil, ys_, begin_R, begin_R', sameB_rf, eqL_rf, Int.cast_ofNat_Int, h1]; rfl)); (try kernel_rfl); try exact k118_) | fail)
  apply At.endsRet za_ (fn := Try.f28) (rs := [.tmp 10]) Anc.refl hro (lb_ rfl) rfl
  ·exact yq_
  ·exact k4_
  ·exact k5_
  ·rfl
  ·exact k117_
  ·exact k7_
  ·exact fun β => rfl
  ·exact k117_
 by_cases h2 : 1100 < s.cells.length
 case pos =>
  refine zf_ (fn := Try.f28) 11 134 0 rfl rfl rfl rfl rfl u21_ rfl fun w0 M E hro => ?_
  repeat' (first | refine Ctl.h ?_ | ((with_reducible intro hif); first | (focus (cases hif; done)) | ((try simp only [JH] at hif); try (exfalso; omega))) | ((with_reducible first | apply J22 cTeE_ok za_ | apply J23 fol cTeE_ok za_ | apply J24); (·rfl); (· (simp only [push_cast, ↓JP, Nat.reduceAdd, Nat.reduceEqDiff, Nat.reduceLT, Nat.reduceMul, Nat.reduceLeDiff, reduceCtorEq, reduceIte, ↓JK, cTeE, sRDoE, JM, sClI, sTh18, sTh14, sRSame, sISm, sSpl, sBegin, sRBegin, sEqIns, sIDoG, sIDoB, sr, evS, stS, cRf, sRf, cB, sB, prT, ym_, nilS, nodupN, memN, zu_, zc_, ls_nil, ys_, begin_R, begin_R', sameB_rf, eqL_rf, Int.cast_ofNat_Int, h1, h2]; rfl)); (try kernel_rfl); try exact k118_) | fail)
  apply At.endsRet za_ (fn := Try.f28) (rs := [.tmp 10]) Anc.refl hro (lb_ rfl) rfl
  ·exact yq_
  ·exact k4_
  ·exact k5_
  ·rfl
  ·exact k117_
  ·exact k7_
  ·exact fun β => rfl
  ·exact k117_
 by_cases h3 : 1100 < t.cells.length
 case pos =>
  refine zf_ (fn := Try.f28) 11 134 0 rfl rfl rfl rfl rfl u21_ rfl fun w0 M E hro => ?_
  repeat' (first | refine Ctl.h ?_ | ((with_reducible intro hif); first | (focus (cases hif; done)) | ((try simp only [JH] at hif); try (exfalso; omega))) | ((with_reducible first | apply J22 cTeE_ok za_ | apply J23 fol cTeE_ok za_ | apply J24); (·rfl); (· (simp only [push_cast, ↓JP, Nat.reduceAdd, Nat.reduceEqDiff, Nat.reduceLT, Nat.reduceMul, Nat.reduceLeDiff, reduceCtorEq, reduceIte, ↓JK, cTeE, sRDoE, JM, sClI, sTh18, sTh14, sRSame, sISm, sSpl, sBegin, sRBegin, sEqIns, sIDoG, sIDoB, sr, evS, stS, cRf, sRf, cB, sB, prT, ym_, nilS, nodupN, memN, zu_, zc_, ls_nil, ys_, begin_R, begin_R', sameB_rf, eqL_rf, Int.cast_ofNat_Int, h1, h2, h3]; rfl)); (try kernel_rfl); try exact k118_) | fail)
  apply At.endsRet za_ (fn := Try.f28) (rs := [.tmp 10]) Anc.refl hro (lb_ rfl) rfl
  ·exact yq_
  ·exact k4_
  ·exact k5_
  ·rfl
  ·exact k117_
  ·exact k7_
  ·exact fun β => rfl
  ·exact k117_
 by_cases h4 : 300 < s.sends.length
 case pos =>
  refine zf_ (fn := Try.f28) 11 134 0 rfl rfl rfl rfl rfl u21_ rfl fun w0 M E hro => ?_
  repeat' (first | refine Ctl.h ?_ | ((with_reducible intro hif); first | (focus (cases hif; done)) | ((try simp only [JH] at hif); try (exfalso; omega))) | ((with_reducible first | apply J22 cTeE_ok za_ | apply J23 fol cTeE_ok za_ | apply J24); (·rfl); (· (simp only [push_cast, ↓JP, Nat.reduceAdd, Nat.reduceEqDiff, Nat.reduceLT, Nat.reduceMul, Nat.reduceLeDiff, reduceCtorEq, reduceIte, ↓JK, cTeE, sRDoE, JM, sClI, sTh18, sTh14, sRSame, sISm, sSpl, sBegin, sRBegin, sEqIns, sIDoG, sIDoB, sr, evS, stS, cRf, sRf, cB, sB, prT, ym_, nilS, nodupN, memN, zu_, zc_, ls_nil, ys_, begin_R, begin_R', sameB_rf, eqL_rf, Int.cast_ofNat_Int, h1, h2, h3, h4]; rfl)); (try kernel_rfl); try exact k118_) | fail)
  apply At.endsRet za_ (fn := Try.f28) (rs := [.tmp 10]) Anc.refl hro (lb_ rfl) rfl
  ·exact yq_
  ·exact k4_
  ·exact k5_
  ·rfl
  ·exact k117_
  ·exact k7_
  ·exact fun β => rfl
  ·exact k117_
 by_cases h5 : 300 < t.sends.length
 case pos =>
  refine zf_ (fn := Try.f28) 11 134 0 rfl rfl rfl rfl rfl u21_ rfl fun w0 M E hro => ?_
  repeat' (first | refine Ctl.h ?_ | ((with_reducible intro hif); first | (focus (cases hif; done)) | ((try simp only [JH] at hif); try (exfalso; omega))) | ((with_reducible first | apply J22 cTeE_ok za_ | apply J23 fol cTeE_ok za_ | apply J24); (·rfl); (· (simp only [push_cast, ↓JP, Nat.reduceAdd, Nat.reduceEqDiff, Nat.reduceLT, Nat.reduceMul, Nat.reduceLeDiff, reduceCtorEq, reduceIte, ↓JK, cTeE, sRDoE, JM, sClI, sTh18, sTh14, sRSame, sISm, sSpl, sBegin, sRBegin, sEqIns, sIDoG, sIDoB, sr, evS, stS, cRf, sRf, cB, sB, prT, ym_, nilS, nodupN, memN, zu_, zc_, ls_nil, ys_, begin_R, begin_R', sameB_rf, eqL_rf, Int.cast_ofNat_Int, h1, h2, h3, h4, h5]; rfl)); (try kernel_rfl); try exact k118_) | fail)
  apply At.endsRet za_ (fn := Try.f28) (rs := [.tmp 10]) Anc.refl hro (lb_ rfl) rfl
  ·exact yq_
  ·exact k4_
  ·exact k5_
  ·rfl
  ·exact k117_
  ·exact k7_
  ·exact fun β => rfl
  ·exact k117_
 have hcl := doS_clen s v (insAt P s.at_)
 by_cases hG : goE P v s = 0
 case neg =>
  refine zf_ (fn := Try.f28) 11 134 0 rfl rfl rfl rfl rfl u21_ rfl fun w0 M E hro => ?_
  repeat' (first | refine Ctl.h ?_ | ((with_reducible intro hif); first | (focus (cases hif; done)) | ((try simp only [JH] at hif); try (exfalso; omega))) | ((with_reducible first | apply J22 cTeE_ok za_ | apply J23 fol cTeE_ok za_ | apply J24); (·rfl); (· (simp only [push_cast, ↓JP, Nat.reduceAdd, Nat.reduceEqDiff, Nat.reduceLT, Nat.reduceMul, Nat.reduceLeDiff, reduceCtorEq, reduceIte, ↓JK, cTeE, sRDoE, JM, sClI, sTh18, sTh14, sRSame, sISm, sSpl, sBegin, sRBegin, sEqIns, sIDoG, sIDoB, sr, evS, stS, cRf, sRf, cB, sB, prT, ym_, nilS, nodupN, memN, zu_, zc_, ls_nil, ys_, begin_R, begin_R', sameB_rf, eqL_rf, Int.cast_ofNat_Int, h1, h2, h3, h4, h5, hG]; rfl)); (try kernel_rfl); try exact k118_) | fail)
  apply At.endsRet za_ (fn := Try.f28) (rs := [.tmp 10]) Anc.refl hro (lb_ rfl) rfl
  ·exact yq_
  ·exact k4_
  ·exact k5_
  ·rfl
  ·exact k117_
  ·exact k7_
  ·exact fun β => rfl
  ·exact k117_
 obtain ⟨hO, hen, hE⟩ := goE_zero hG
 have hst := stepS_of (P := P) (v := v) hen
 by_cases h6 : (insAt P s.at_).op = 6
 ·have eS : (yw_ P v s).sends = s.sends := by rw [hst]; exact doS_sends8 (by omega)
  have eL : (yw_ P v s).cells.length = s.cells.length := by rw [hst]; exact hcl
  have eC : ls iOf s.cells.length (zo_ (yw_ P v s).cells) = (yw_ P v s).cells := by rw [← eL]; exact xj_ _
  obtain ⟨S', hS'⟩ : ∃ S', yw_ P v s = S' := ⟨_, rfl⟩
  rw [hS'] at eS eL eC
  have eC2 : ls iOf s.cells.length (fun q => SV.int .i64 (S'.cells.getD q 0)) = S'.cells := eC
  refine zf_ (fn := Try.f28) 11 134 0 rfl rfl rfl rfl rfl u21_ rfl fun w0 M E hro => ?_
  repeat' (first | refine Ctl.h ?_ | ((with_reducible intro hif); first | (focus (cases hif; done)) | ((try simp only [JH] at hif); try (exfalso; omega))) | ((with_reducible first | apply J22 cTe6_ok za_ | apply J23 fol cTe6_ok za_ | apply J24); (·rfl); (· (simp only [push_cast, ↓JP, Nat.reduceAdd, Nat.reduceEqDiff, Nat.reduceLT, Nat.reduceMul, Nat.reduceLeDiff, reduceCtorEq, reduceIte, ↓JK, cTe6, sRDo6, JM, sClI, sTh18, sTh14, sRSame, sISm, sSpl, sBegin, sRBegin, sEqIns, sIDoG, sIDoB, sr, evS, stS, cRf, sRf, cB, sB, prT, ym_, nilS, nodupN, memN, zu_, zc_, ls_nil, ys_, begin_R, begin_R', sameB_rf, eqL_rf, Int.cast_ofNat_Int, h1, h2, h3, h4, h5, (eq_true hG), (eq_true h6), hS', eS, eL, eC, eC2]; rfl)); (try kernel_rfl); (try (focus (first | exact True.intro | ((try simp only [JE, iOf, zc_, ls_nil, ys_, hS', eS, eL, eC, eC2]); (repeat' (first | exact True.intro | exact hok | exact hg | assumption | apply And.intro | rfl | omega | decide | intro _)); done) | ((try simp only [JS, implies_true, forall_const, yc_, z6_, kndOf]); (repeat' (first | assumption | exact True.intro | omega | apply And.intro)); done))))) | fail)
  apply At.endsRet za_ (fn := Try.f28) (rs := [.tmp 10]) Anc.refl hro (lb_ rfl) rfl
  ·exact yq_
  ·exact k4_
  ·exact k5_
  ·rfl
  ·exact k117_
  ·exact k7_
  ·exact fun β => rfl
  ·exact k117_
 by_cases h8 : (insAt P s.at_).op = 8
 ·have eC : (yw_ P v s).cells = s.cells := by rw [hst]; exact doS_cells6 (by omega)
  have eL : (yw_ P v s).sends.length = s.sends.length + 1 := by rw [hst]; exact doS_slen hE h8
  have eS : ls zn_ (s.sends.length + 1) (zm_ (yw_ P v s).sends) = (yw_ P v s).sends := by rw [← eL]; exact ls_sndsS _
  obtain ⟨S', hS'⟩ : ∃ S', yw_ P v s = S' := ⟨_, rfl⟩
  rw [hS'] at eS eL eC
  have eS2 : ls zn_ (s.sends.length + 1) (fun q => sndS (S'.sends.getD q ⟨0, 0, 0⟩)) = S'.sends := eS
  refine zf_ (fn := Try.f28) 11 134 0 rfl rfl rfl rfl rfl u21_ rfl fun w0 M E hro => ?_
  repeat' (first | refine Ctl.h ?_ | ((with_reducible intro hif); first | (focus (cases hif; done)) | ((try simp only [JH] at hif); try (exfalso; omega))) | ((with_reducible first | apply J22 cTe8_ok za_ | apply J23 fol cTe8_ok za_ | apply J24); (·rfl); (· (simp only [push_cast, ↓JP, Nat.reduceAdd, Nat.reduceEqDiff, Nat.reduceLT, Nat.reduceMul, Nat.reduceLeDiff, reduceCtorEq, reduceIte, ↓JK, cTe8, sRDo8, JM, sClI, sTh18, sTh14, sRSame, sISm, sSpl, sBegin, sRBegin, sEqIns, sIDoG, sIDoB, sr, evS, stS, cRf, sRf, cB, sB, prT, ym_, nilS, nodupN, memN, zu_, zc_, ls_nil, ys_, begin_R, begin_R', sameB_rf, eqL_rf, Int.cast_ofNat_Int, h1, h2, h3, h4, h5, (eq_true hG), h6, (eq_true h8), hS', eS, eL, eC, eS2]; rfl)); (try kernel_rfl); (try (focus (first | exact True.intro | ((try simp only [JE, iOf, zc_, ls_nil, ys_, hS', eS, eL, eC, eS2]); (repeat' (first | exact True.intro | exact hok | exact hg | assumption | apply And.intro | rfl | omega | decide | intro _)); done) | ((try simp only [JS, implies_true, forall_const, yc_, z6_, kndOf]); (repeat' (first | assumption | exact True.intro | omega | apply And.intro)); done))))) | fail)
  apply At.endsRet za_ (fn := Try.f28) (rs := [.tmp 10]) Anc.refl hro (lb_ rfl) rfl
  ·exact yq_
  ·exact k4_
  ·exact k5_
  ·rfl
  ·exact k117_
  ·exact k7_
  ·exact fun β => rfl
  ·exact k117_
 ·have eC : (yw_ P v s).cells = s.cells := by rw [hst]; exact doS_cells6 h6
  have eS : (yw_ P v s).sends = s.sends := by rw [hst]; exact doS_sends8 h8
  obtain ⟨S', hS'⟩ : ∃ S', yw_ P v s = S' := ⟨_, rfl⟩
  rw [hS'] at eS eC
  refine zf_ (fn := Try.f28) 11 134 0 rfl rfl rfl rfl rfl u21_ rfl fun w0 M E hro => ?_
  repeat' (first | refine Ctl.h ?_ | ((with_reducible intro hif); first | (focus (cases hif; done)) | ((try simp only [JH] at hif); try (exfalso; omega))) | ((with_reducible first | apply J22 cTeX_ok za_ | apply J23 fol cTeX_ok za_ | apply J24); (·rfl); (· (simp only [push_cast, ↓JP, Nat.reduceAdd, Nat.reduceEqDiff, Nat.reduceLT, Nat.reduceMul, Nat.reduceLeDiff, reduceCtorEq, reduceIte, ↓JK, cTeX, sRDoX, JM, sClI, sTh18, sTh14, sRSame, sISm, sSpl, sBegin, sRBegin, sEqIns, sIDoG, sIDoB, sr, evS, stS, cRf, sRf, cB, sB, prT, ym_, nilS, nodupN, memN, zu_, zc_, ls_nil, ys_, begin_R, begin_R', sameB_rf, eqL_rf, Int.cast_ofNat_Int, h1, h2, h3, h4, h5, (eq_true hG), h6, h8, hS', eS, eC]; rfl)); (try kernel_rfl); (try (focus (first | exact True.intro | ((try simp only [JE, iOf, zc_, ls_nil, ys_, hS', eS, eC]); (repeat' (first | exact True.intro | exact hok | exact hg | assumption | apply And.intro | rfl | omega | decide | intro _)); done) | ((try simp only [JS, implies_true, forall_const, yc_, z6_, kndOf]); (repeat' (first | assumption | exact True.intro | omega | apply And.intro)); done))))) | fail)
  apply At.endsRet za_ (fn := Try.f28) (rs := [.tmp 10]) Anc.refl hro (lb_ rfl) rfl
  ·exact yq_
  ·exact k4_
  ·exact k5_
  ·rfl
  ·exact k117_
  ·exact k7_
  ·exact fun β => rfl
  ·exact k117_
def sTells18 : yp_ := fun args h m => match args with
 | [v1, .agg [v2, v3, v4, v5, v6], .agg [v7, .bool v8, .arr 8 1 v9, v10, v11, v12], .agg [v13, .bool v14, .arr 8 1 v15, v16, v17, v18], .agg [.agg [v19, v20, v21], v22, v23]] => match y6_ h 5 (.tup []) v1, y6_ h 1 (.tup []) v10, y6_ h 3 (.tup []) v12, y6_ h 1 (.tup []) v16, y6_ h 3 (.tup []) v18 with
  | some (c1, n1, f1, r1), some (c10, n10, f10, r10), some (c12, n12, f12, r12), some (c16, n16, f16, r16), some (c18, n18, f18, r18) => bif isI .u64 v2 && isI .i64 v3 && isI .i64 v4 && isI .i64 v5 && isI .i64 v6 && isI .i64 v7 && isI .i64 v11 && isI .i64 v13 && isI .i64 v17 && isI .i64 v19 && isI .i64 v20 && isI .i64 v21 && isI .i64 v22 && isI .i64 v23 then some (c1 ∧ c10 ∧ c12 ∧ c16 ∧ c18 ∧ (∀ q, q < n1 → isIns (f1 q) = true) ∧ (∀ q, q < n10 → isI .i64 (f10 q) = true) ∧ (∀ q, q < n12 → isSnd (f12 q) = true) ∧ (∀ q, q < n16 → isI .i64 (f16 q) = true) ∧ (∀ q, q < n18 → isSnd (f18 q) = true) ∧ (∀ q, q < 8 → isI .i64 (v9 q) = true) ∧ (∀ q, q < 8 → isI .i64 (v15 q) = true) ∧ ((∀ x ∈ (ls zt_ n1 f1), x.ok)) ∧ ((∀ q, R64 ((fun q => iOf (v9 q)) q))), .bool true, r1 ++ r10 ++ r12 ++ r16 ++ r18, []) else none
  | _, _, _, _, _ => none
 | _ => none
theorem sTells18_ok : zj_ Try.prog 28 sTells18 := by
 refine ⟨zi_ (by kernel_rfl), fun args h m c v rd wr hs hm hc w0 M β h' w R hrd hwr hst => ?_⟩
 unfold sTells18 at hs
 split at hs
 ·rename_i v1 v2 v3 v4 v5 v6 v7 v8 v9 v10 v11 v12 v13 v14 v15 v16 v17 v18 v19 v20 v21 v22 v23
  split at hs
  ·rename_i c1 n1 f1 r1 c10 n10 f10 r10 c12 n12 f12 r12 c16 n16 f16 r16 c18 n18 f18 r18 a1 a10 a12 a16 a18
   obtain ⟨hb, hs⟩ := zl_ hs
   simp only [Option.some.injEq, Prod.mk.injEq] at hs
   obtain ⟨rfl, rfl, rfl, rfl⟩ := hs
   simp only [Bool.and_eq_true] at hb
   obtain ⟨⟨⟨⟨⟨⟨⟨⟨⟨⟨⟨⟨⟨b2, b3⟩, b4⟩, b5⟩, b6⟩, b7⟩, b11⟩, b13⟩, b17⟩, b19⟩, b20⟩, b21⟩, b22⟩, b23⟩ := hb
   obtain ⟨k1, k10, k12, k16, k18, g1, g10, g12, g16, g18, g9, g15, y1, y2⟩ := hc
   obtain ⟨A1, p1, d1, e1, t1⟩ := zg_ R a1 k1 (fun i hi => hrd i (List.mem_append_left _ (List.mem_append_left _ (List.mem_append_left _ (List.mem_append_left _ hi))))) (by omega)
   obtain ⟨A10, p10, d10, e10, t10⟩ := zg_ R a10 k10 (fun i hi => hrd i (List.mem_append_left _ (List.mem_append_left _ (List.mem_append_left _ (List.mem_append_right _ hi))))) (by omega)
   obtain ⟨A12, p12, d12, e12, t12⟩ := zg_ R a12 k12 (fun i hi => hrd i (List.mem_append_left _ (List.mem_append_left _ (List.mem_append_right _ hi)))) (by omega)
   obtain ⟨A16, p16, d16, e16, t16⟩ := zg_ R a16 k16 (fun i hi => hrd i (List.mem_append_left _ (List.mem_append_right _ hi))) (by omega)
   obtain ⟨A18, p18, d18, e18, t18⟩ := zg_ R a18 k18 (fun i hi => hrd i (List.mem_append_right _ hi)) (by omega)
   refine yl_ (views := [⟨5, (ls zt_ n1 f1).length, prS (ls zt_ n1 f1), A1, p1⟩, ⟨1, (ls iOf n10 f10).length, zo_ (ls iOf n10 f10), A10, p10⟩, ⟨3, (ls zn_ n12 f12).length, zm_ (ls zn_ n12 f12), A12, p12⟩, ⟨1, (ls iOf n16 f16).length, zo_ (ls iOf n16 f16), A16, p16⟩, ⟨3, (ls zn_ n18 f18).length, zm_ (ls zn_ n18 f18), A18, p18⟩]) (tells18_lit (ls zt_ n1 f1) ⟨(iOf v2), (iOf v3), (iOf v4), (iOf v5), (iOf v6)⟩ ⟨(iOf v7), v8, (fun q => iOf (v9 q)), (ls iOf n10 f10), (iOf v11), (ls zn_ n12 f12)⟩ ⟨(iOf v13), v14, (fun q => iOf (v15 q)), (ls iOf n16 f16), (iOf v17), (ls zn_ n18 f18)⟩ (iOf v19) (iOf v20) (iOf v21) (iOf v22) (iOf v23) p1 p10 p12 p16 p18 y1 y2) ?_ R hm hwr ?_ ?_ ?_
   ·intro x hx
    simp only [List.mem_cons, List.not_mem_nil, or_false] at hx
    rcases hx with rfl | rfl | rfl | rfl | rfl
    ·exact viewIns t1 e1 g1
    ·exact yg_ t10 e10 g10
    ·exact y3_ t12 e12 g12
    ·exact yg_ t16 e16 g16
    ·exact y3_ t18 e18 g18
   ·intro β1 hv
    simp only [Vd, zc_, and_true] at hv
    obtain ⟨z1, z10, z12, z16, z18⟩ := hv
    simp only [denL, z4_, z3_, yd_, zs_, zc_, yo_, evS, sr, csl, ssl, z1, z10, z12, z16, z18, d1, d10, d12, d16, d18, zd_ b2, zd_ b3, zd_ b4, zd_ b5, zd_ b6, zd_ b7, zd_ b11, zd_ b13, zd_ b17, zd_ b19, zd_ b20, zd_ b21, zd_ b22, zd_ b23, ← r8Den (β := β) (β1 := β1) g9, ← r8Den (β := β) (β1 := β1) g15]
   ·exact k117_
   ·exact k117_
  ·cases hs
 ·cases hs
end Go.Proofs.Ytmljmabbopkpiaa.Vm
end

import Derived.Test.YtmljmabbopkpiaaM1
import Derived.Test.YtmljmabbopkpiaaM9
import Derived.Test.YtmljmabbopkpiaaM25
import Derived.Test.YtmljmabbopkpiaaM27
import Derived.Test.YtmljmabbopkpiaaM30
import Derived.Test.YtmljmabbopkpiaaM31
import Derived.Test.YtmljmabbopkpiaaM33
set_option linter.unusedSimpArgs false
set_option linter.unusedVariables false
set_option maxRecDepth 100000
set_option maxHeartbeats 4000000
section
open Go.Proofs.Ytmljmabbopkpiaa.Vm Go.RowKit
attribute [local push_cast] prS zm_ zo_ nav_ins xe_ xd_ xc_ xb_ xa_ nav_snd y9_ y8_ y7_ zu_ z7_ yf_ z5_ ya_ z9_ iOf
section
namespace Go.Proofs.Ytmljmabbopkpiaa.Vm
open Go.RowKit
theorem ls_one {α : Type} (g : SV → α) (f : Nat → SV) : ls g 1 f = [g (f 0)] := rfl
theorem ls_two {α : Type} (g : SV → α) (f : Nat → SV) : ls g 2 f = [g (f 0), g (f 1)] := rfl
theorem ls_three {α : Type} (g : SV → α) (f : Nat → SV) : ls g 3 f = [g (f 0), g (f 1), g (f 2)] := rfl
theorem ls_nil {α : Type} (g : SV → α) (f : Nat → SV) : ls g 0 f = [] := rfl
theorem ys_ : ((0 : Nat) : Int) = 0 := rfl
theorem insOf_agg (a b c d e : SV) : zt_ (.agg [a, b, c, d, e]) = ⟨iOf a, iOf b, iOf c, iOf d, iOf e⟩ := rfl
theorem sndOf_agg (a b c : SV) : zn_ (.agg [a, b, c]) = ⟨iOf a, iOf b, iOf c⟩ := rfl
theorem ins_eta2 (x : Ins) : Ins.mk x.op x.a x.b x.c x.n = x := rfl
theorem beg_fold' (y t s d : Int) (cs : List Int) : Sta.mk 0 false (begR y t s) cs d [] = begS y t s cs d := rfl
def cAoG : FuncId → Option yp_ := yy_ [(31, sIDoG)]
theorem cAoG_ok : ∀ f S, cAoG f = some S → zj_ Try.prog f S := zq_ ⟨sIDoG_ok, trivial⟩
def cAoB : FuncId → Option yp_ := yy_ [(31, sIDoB)]
theorem cAoB_ok : ∀ f S, cAoB f = some S → zj_ Try.prog f S := zq_ ⟨sIDoB_ok, trivial⟩
theorem aw1_G (x : Ins) (v : Evi) (s : Sta) (p1 p2 : Nat) (hx : x.ok) (hc : s.cells.length ≤ 1000000) (hs : s.sends.length ≤ 1000000) (hG : goE [x, ⟨1, 0, 0, 0, 0⟩] v s = 0) : zp_ Try.prog 60 [.agg [.int .u8 x.op, .int .u8 x.a, .int .u8 x.b, .int .u8 x.c, .int .i64 x.n], .agg [.int .u64 v.seed, .int .i64 v.process, .int .i64 v.ports, .int .i64 v.look, .int .i64 v.now], .agg [.int .i64 s.at_, .bool s.ended, .arr 8 1 (fun q => .int .i64 (s.regs q)), .sl 1 2 [] 1 0 s.cells.length (some p1), .int .i64 s.draws, .sl 3 4 [] 3 0 s.sends.length (some p2)]] [.gone, .gone, .ro (.arr s.cells.length 1 (zo_ s.cells)), .gone, .ro (.arr s.sends.length 3 (zm_ s.sends))] (.tup [stS (yw_ [x, ⟨1, 0, 0, 0, 0⟩] v s) 5 6, .int .i64 0]) [.gone, .gone, .gone, .gone, .gone, cB (yw_ [x, ⟨1, 0, 0, 0, 0⟩] v s), sB (yw_ [x, ⟨1, 0, 0, 0, 0⟩] v s)] := by
 have ⟨o0, o1, a0, a1, b0, b1, c0, c1, n0, n1⟩ := hx
 have h2 : ∀ y ∈ [x, ⟨1, 0, 0, 0, 0⟩], y.ok := by
  intro y hy
  simp only [List.mem_cons, List.not_mem_nil, or_false] at hy
  rcases hy with rfl | rfl
  ·exact hx
  ·refine ⟨?_, ?_, ?_, ?_, ?_, ?_, ?_, ?_, ?_, ?_⟩ <;> decide
 skip
 refine zf_ (fn := Try.f60) 5 16 0 rfl rfl rfl rfl rfl u20_ rfl fun w0 M E hro => ?_
 repeat' (first | refine Ctl.h ?_ | ((with_reducible intro hif); first | (focus (cases hif; done)) | ((try simp only [JH] at hif); try (exfalso; omega))) | ((with_reducible first | apply J22 cAoG_ok za_ | apply J23 fol cAoG_ok za_ | apply J24); (·rfl); (· (simp only [push_cast, ↓JP, Nat.reduceAdd, Nat.reduceEqDiff, Nat.reduceLT, Nat.reduceMul, Nat.reduceLeDiff, reduceCtorEq, reduceIte, ↓JK, cAoG, sIDoG, JE, ins_eta2, ls_two, insOf_agg, ys_, ya_, z9_, iOf, inR, inN, Int.cast_ofNat_Int, List.all_cons, List.all_nil]; rfl)); (try kernel_rfl); try exact k115_) | fail)
 apply At.endsPick [0, 1, 2, 3, 4, 10, 11] za_ (fn := Try.f60) (rs := [.cell 6 53, .tmp 7]) Anc.refl hro (lb_ rfl) rfl
 ·exact yq_
 ·exact k14_
 ·rfl
 ·rfl
 ·rfl
 ·exact k30_
 ·rfl
 ·exact k111_
 ·exact k7_
 ·exact fun β => rfl
 ·exact k111_
theorem aw1_B (x : Ins) (v : Evi) (s : Sta) (p1 p2 : Nat) (hx : x.ok) (hc : s.cells.length ≤ 1000000) (hs : s.sends.length ≤ 1000000) (hG : goE [x, ⟨1, 0, 0, 0, 0⟩] v s ≠ 0) : zp_ Try.prog 60 [.agg [.int .u8 x.op, .int .u8 x.a, .int .u8 x.b, .int .u8 x.c, .int .i64 x.n], .agg [.int .u64 v.seed, .int .i64 v.process, .int .i64 v.ports, .int .i64 v.look, .int .i64 v.now], .agg [.int .i64 s.at_, .bool s.ended, .arr 8 1 (fun q => .int .i64 (s.regs q)), .sl 1 2 [] 1 0 s.cells.length (some p1), .int .i64 s.draws, .sl 3 4 [] 3 0 s.sends.length (some p2)]] [.gone, .gone, .ro (.arr s.cells.length 1 (zo_ s.cells)), .gone, .ro (.arr s.sends.length 3 (zm_ s.sends))] (.tup [ym_, .int .i64 (goE [x, ⟨1, 0, 0, 0, 0⟩] v s)]) [.gone] := by
 have ⟨o0, o1, a0, a1, b0, b1, c0, c1, n0, n1⟩ := hx
 have h2 : ∀ y ∈ [x, ⟨1, 0, 0, 0, 0⟩], y.ok := by
  intro y hy
  simp only [List.mem_cons, List.not_mem_nil, or_false] at hy
  rcases hy with rfl | rfl
  ·exact hx
  ·refine ⟨?_, ?_, ?_, ?_, ?_, ?_, ?_, ?_, ?_, ?_⟩ <;> decide
 simp only [ym_, nilS]
 refine zf_ (fn := Try.f60) 5 16 0 rfl rfl rfl rfl rfl u20_ rfl fun w0 M E hro => ?_
 repeat' (first | refine Ctl.h ?_ | ((with_reducible intro hif); first | (focus (cases hif; done)) | ((try simp only [JH] at hif); try (exfalso; omega))) | ((with_reducible first | apply J22 cAoB_ok za_ | apply J23 fol cAoB_ok za_ | apply J24); (·rfl); (· (simp only [push_cast, ↓JP, Nat.reduceAdd, Nat.reduceEqDiff, Nat.reduceLT, Nat.reduceMul, Nat.reduceLeDiff, reduceCtorEq, reduceIte, ↓JK, cAoB, sIDoB, JE, ins_eta2, ls_two, insOf_agg, ys_, ya_, z9_, iOf, inR, inN, Int.cast_ofNat_Int, List.all_cons, List.all_nil]; rfl)); (try kernel_rfl); try exact k115_) | fail)
 apply At.endsRet za_ (fn := Try.f60) (rs := [.cell 6 53, .tmp 7]) Anc.refl hro (lb_ rfl) rfl
 ·exact yq_
 ·exact k4_
 ·exact k5_
 ·rfl
 ·exact k111_
 ·exact k7_
 ·exact fun β => rfl
 ·exact k111_
def sAwG : yp_ := fun args h m => match args with
 | [.agg [v1, v2, v3, v4, v5], .agg [v6, v7, v8, v9, v10], .agg [v11, .bool v12, .arr 8 1 v13, v14, v15, v16]] => match y6_ h 1 (.tup []) v14, y6_ h 3 (.tup []) v16 with
  | some (c14, n14, f14, r14), some (c16, n16, f16, r16) => bif isI .u8 v1 && isI .u8 v2 && isI .u8 v3 && isI .u8 v4 && isI .i64 v5 && isI .u64 v6 && isI .i64 v7 && isI .i64 v8 && isI .i64 v9 && isI .i64 v10 && isI .i64 v11 && isI .i64 v15 then some (c14 ∧ c16 ∧ (∀ q, q < n14 → isI .i64 (f14 q) = true) ∧ (∀ q, q < n16 → isSnd (f16 q) = true) ∧ (∀ q, q < 8 → isI .i64 (v13 q) = true) ∧ (Ins.ok ⟨(iOf v1), (iOf v2), (iOf v3), (iOf v4), (iOf v5)⟩) ∧ (n14 ≤ 1000000) ∧ (n16 ≤ 1000000) ∧ (goE [⟨(iOf v1), (iOf v2), (iOf v3), (iOf v4), (iOf v5)⟩, ⟨1, 0, 0, 0, 0⟩] ⟨(iOf v6), (iOf v7), (iOf v8), (iOf v9), (iOf v10)⟩ ⟨(iOf v11), v12, (fun q => iOf (v13 q)), (ls iOf n14 f14), (iOf v15), (ls zn_ n16 f16)⟩ = 0), .tup [stS (yw_ [⟨(iOf v1), (iOf v2), (iOf v3), (iOf v4), (iOf v5)⟩, ⟨1, 0, 0, 0, 0⟩] ⟨(iOf v6), (iOf v7), (iOf v8), (iOf v9), (iOf v10)⟩ ⟨(iOf v11), v12, (fun q => iOf (v13 q)), (ls iOf n14 f14), (iOf v15), (ls zn_ n16 f16)⟩) m (m + 1), .int .i64 0], r14 ++ r16, [(m, cB (yw_ [⟨(iOf v1), (iOf v2), (iOf v3), (iOf v4), (iOf v5)⟩, ⟨1, 0, 0, 0, 0⟩] ⟨(iOf v6), (iOf v7), (iOf v8), (iOf v9), (iOf v10)⟩ ⟨(iOf v11), v12, (fun q => iOf (v13 q)), (ls iOf n14 f14), (iOf v15), (ls zn_ n16 f16)⟩)), (m + 1, sB (yw_ [⟨(iOf v1), (iOf v2), (iOf v3), (iOf v4), (iOf v5)⟩, ⟨1, 0, 0, 0, 0⟩] ⟨(iOf v6), (iOf v7), (iOf v8), (iOf v9), (iOf v10)⟩ ⟨(iOf v11), v12, (fun q => iOf (v13 q)), (ls iOf n14 f14), (iOf v15), (ls zn_ n16 f16)⟩))]) else none
  | _, _ => none
 | _ => none
theorem sAwG_ok : zj_ Try.prog 60 sAwG := by
 refine ⟨zi_ (by kernel_rfl), fun args h m c v rd wr hs hm hc w0 M β h' w R hrd hwr hst => ?_⟩
 unfold sAwG at hs
 split at hs
 ·rename_i v1 v2 v3 v4 v5 v6 v7 v8 v9 v10 v11 v12 v13 v14 v15 v16
  split at hs
  ·rename_i c14 n14 f14 r14 c16 n16 f16 r16 a14 a16
   obtain ⟨hb, hs⟩ := zl_ hs
   simp only [Option.some.injEq, Prod.mk.injEq] at hs
   obtain ⟨rfl, rfl, rfl, rfl⟩ := hs
   simp only [Bool.and_eq_true] at hb
   obtain ⟨⟨⟨⟨⟨⟨⟨⟨⟨⟨⟨b1, b2⟩, b3⟩, b4⟩, b5⟩, b6⟩, b7⟩, b8⟩, b9⟩, b10⟩, b11⟩, b15⟩ := hb
   obtain ⟨k14, k16, g14, g16, g13, y1, y2, y3, y4⟩ := hc
   obtain ⟨A14, p14, d14, e14, t14⟩ := zg_ R a14 k14 (fun i hi => hrd i (List.mem_append_left _ hi)) (by omega)
   obtain ⟨A16, p16, d16, e16, t16⟩ := zg_ R a16 k16 (fun i hi => hrd i (List.mem_append_right _ hi)) (by omega)
   refine yl_ (views := [⟨1, (ls iOf n14 f14).length, zo_ (ls iOf n14 f14), A14, p14⟩, ⟨3, (ls zn_ n16 f16).length, zm_ (ls zn_ n16 f16), A16, p16⟩]) (aw1_G ⟨(iOf v1), (iOf v2), (iOf v3), (iOf v4), (iOf v5)⟩ ⟨(iOf v6), (iOf v7), (iOf v8), (iOf v9), (iOf v10)⟩ ⟨(iOf v11), v12, (fun q => iOf (v13 q)), (ls iOf n14 f14), (iOf v15), (ls zn_ n16 f16)⟩ p14 p16 y1 (by show List.length (ls _ _ _) ≤ _; rw [zc_]; exact y2) u15_ y4) ?_ R hm hwr ?_ ?_ ?_
   ·exact d42_
   ·exact d43_
   ·exact k111_
   ·exact k111_
  ·cases hs
 ·cases hs
def sAwB : yp_ := fun args h m => match args with
 | [.agg [v1, v2, v3, v4, v5], .agg [v6, v7, v8, v9, v10], .agg [v11, .bool v12, .arr 8 1 v13, v14, v15, v16]] => match y6_ h 1 (.tup []) v14, y6_ h 3 (.tup []) v16 with
  | some (c14, n14, f14, r14), some (c16, n16, f16, r16) => bif isI .u8 v1 && isI .u8 v2 && isI .u8 v3 && isI .u8 v4 && isI .i64 v5 && isI .u64 v6 && isI .i64 v7 && isI .i64 v8 && isI .i64 v9 && isI .i64 v10 && isI .i64 v11 && isI .i64 v15 then some (c14 ∧ c16 ∧ (∀ q, q < n14 → isI .i64 (f14 q) = true) ∧ (∀ q, q < n16 → isSnd (f16 q) = true) ∧ (∀ q, q < 8 → isI .i64 (v13 q) = true) ∧ (Ins.ok ⟨(iOf v1), (iOf v2), (iOf v3), (iOf v4), (iOf v5)⟩) ∧ (n14 ≤ 1000000) ∧ (n16 ≤ 1000000) ∧ (goE [⟨(iOf v1), (iOf v2), (iOf v3), (iOf v4), (iOf v5)⟩, ⟨1, 0, 0, 0, 0⟩] ⟨(iOf v6), (iOf v7), (iOf v8), (iOf v9), (iOf v10)⟩ ⟨(iOf v11), v12, (fun q => iOf (v13 q)), (ls iOf n14 f14), (iOf v15), (ls zn_ n16 f16)⟩ ≠ 0), .tup [ym_, .int .i64 (goE [⟨(iOf v1), (iOf v2), (iOf v3), (iOf v4), (iOf v5)⟩, ⟨1, 0, 0, 0, 0⟩] ⟨(iOf v6), (iOf v7), (iOf v8), (iOf v9), (iOf v10)⟩ ⟨(iOf v11), v12, (fun q => iOf (v13 q)), (ls iOf n14 f14), (iOf v15), (ls zn_ n16 f16)⟩)], r14 ++ r16, []) else none
  | _, _ => none
 | _ => none
theorem sAwB_ok : zj_ Try.prog 60 sAwB := by
 refine ⟨zi_ (by kernel_rfl), fun args h m c v rd wr hs hm hc w0 M β h' w R hrd hwr hst => ?_⟩
 unfold sAwB at hs
 split at hs
 ·rename_i v1 v2 v3 v4 v5 v6 v7 v8 v9 v10 v11 v12 v13 v14 v15 v16
  split at hs
  ·rename_i c14 n14 f14 r14 c16 n16 f16 r16 a14 a16
   obtain ⟨hb, hs⟩ := zl_ hs
   simp only [Option.some.injEq, Prod.mk.injEq] at hs
   obtain ⟨rfl, rfl, rfl, rfl⟩ := hs
   simp only [Bool.and_eq_true] at hb
   obtain ⟨⟨⟨⟨⟨⟨⟨⟨⟨⟨⟨b1, b2⟩, b3⟩, b4⟩, b5⟩, b6⟩, b7⟩, b8⟩, b9⟩, b10⟩, b11⟩, b15⟩ := hb
   obtain ⟨k14, k16, g14, g16, g13, y1, y2, y3, y4⟩ := hc
   obtain ⟨A14, p14, d14, e14, t14⟩ := zg_ R a14 k14 (fun i hi => hrd i (List.mem_append_left _ hi)) (by omega)
   obtain ⟨A16, p16, d16, e16, t16⟩ := zg_ R a16 k16 (fun i hi => hrd i (List.mem_append_right _ hi)) (by omega)
   refine yl_ (views := [⟨1, (ls iOf n14 f14).length, zo_ (ls iOf n14 f14), A14, p14⟩, ⟨3, (ls zn_ n16 f16).length, zm_ (ls zn_ n16 f16), A16, p16⟩]) (aw1_B ⟨(iOf v1), (iOf v2), (iOf v3), (iOf v4), (iOf v5)⟩ ⟨(iOf v6), (iOf v7), (iOf v8), (iOf v9), (iOf v10)⟩ ⟨(iOf v11), v12, (fun q => iOf (v13 q)), (ls iOf n14 f14), (iOf v15), (ls zn_ n16 f16)⟩ p14 p16 y1 (by show List.length (ls _ _ _) ≤ _; rw [zc_]; exact y2) u15_ y4) ?_ R hm hwr ?_ ?_ ?_
   ·exact d42_
   ·exact d43_
   ·exact k111_
   ·exact k111_
  ·cases hs
 ·cases hs
def goB (P : List Ins) (v : Evi) (s : Sta) : Bool := decide (goE P v s = 0)
def sAO : yp_ := fun args h m => match args with
 | [.agg [v1, v2, v3, v4, v5], .agg [v6, v7, v8, v9, v10], .agg [v11, .bool v12, .arr 8 1 v13, v14, v15, v16]] => match y6_ h 1 (.tup []) v14, y6_ h 3 (.tup []) v16 with
  | some (_, n14, f14, _), some (_, n16, f16, _) => bif goB [⟨iOf v1, iOf v2, iOf v3, iOf v4, iOf v5⟩, ⟨1, 0, 0, 0, 0⟩] ⟨iOf v6, iOf v7, iOf v8, iOf v9, iOf v10⟩ ⟨iOf v11, v12, fun q => iOf (v13 q), ls iOf n14 f14, iOf v15, ls zn_ n16 f16⟩ then sAwG [.agg [v1, v2, v3, v4, v5], .agg [v6, v7, v8, v9, v10], .agg [v11, .bool v12, .arr 8 1 v13, v14, v15, v16]] h m else sAwB [.agg [v1, v2, v3, v4, v5], .agg [v6, v7, v8, v9, v10], .agg [v11, .bool v12, .arr 8 1 v13, v14, v15, v16]] h m
  | _, _ => none
 | _ => none
theorem sAO_ok : zj_ Try.prog 60 sAO := by
 refine ⟨zi_ (by kernel_rfl), fun args h m c v rd wr hs hm hc w0 M β h' w R hrd hwr hst => ?_⟩
 unfold sAO at hs
 split at hs
 ·split at hs
  ·generalize goB _ _ _ = q at hs
   cases q
   ·simp only [cond_false] at hs
    exact sAwB_ok.2 _ h m c v rd wr hs hm hc w0 M β h' w R hrd hwr hst
   ·simp only [cond_true] at hs
    exact sAwG_ok.2 _ h m c v rd wr hs hm hc w0 M β h' w R hrd hwr hst
  ·cases hs
 ·cases hs
def sDoA : yp_ := fun args h m => match args with
 | [v1, .agg [v2, v3, v4, v5, v6], .agg [v7, .bool v8, .arr 8 1 v9, v10, v11, v12]] => match y6_ h 5 (.tup []) v1, y6_ h 1 (.tup []) v10, y6_ h 3 (.tup []) v12 with
  | some (_, n1, f1, _), some (_, n10, f10, _), some (_, n12, f12, _) => bif goB (ls zt_ n1 f1) ⟨iOf v2, iOf v3, iOf v4, iOf v5, iOf v6⟩ ⟨iOf v7, v8, fun q => iOf (v9 q), ls iOf n10 f10, iOf v11, ls zn_ n12 f12⟩ then sIDoG [v1, .agg [v2, v3, v4, v5, v6], .agg [v7, .bool v8, .arr 8 1 v9, v10, v11, v12]] h m else sIDoB [v1, .agg [v2, v3, v4, v5, v6], .agg [v7, .bool v8, .arr 8 1 v9, v10, v11, v12]] h m
  | _, _, _ => none
 | _ => none
theorem sDoA_ok : zj_ Try.prog 31 sDoA := by
 refine ⟨zi_ (by kernel_rfl), fun args h m c v rd wr hs hm hc w0 M β h' w R hrd hwr hst => ?_⟩
 unfold sDoA at hs
 split at hs
 ·split at hs
  ·generalize goB _ _ _ = q at hs
   cases q
   ·simp only [cond_false] at hs
    exact sIDoB_ok.2 _ h m c v rd wr hs hm hc w0 M β h' w R hrd hwr hst
   ·simp only [cond_true] at hs
    exact sIDoG_ok.2 _ h m c v rd wr hs hm hc w0 M β h' w R hrd hwr hst
  ·cases hs
 ·cases hs
theorem ev18_lit (a b c : Int) : zp_ Try.prog 40 [.int .i64 a, .int .i64 b, .int .i64 c] [.gone] (.agg [.agg [.int .i64 b, .int .i64 c, .nat .i64 0], .nat .i64 0, .int .i64 a]) [.gone] := by
 refine zf_ (fn := Try.f40) 1 12 0 rfl rfl rfl rfl rfl u20_ rfl fun w0 M E hro => ?_
 repeat' (first | refine Ctl.h ?_ | ((with_reducible intro hif); first | (focus (cases hif; done)) | ((try simp only [JH] at hif); try (exfalso; omega))) | ((with_reducible first | apply J22 zx_ za_ | apply J23 fol zx_ za_ | apply J24); (·rfl); (· exact k92_); (try kernel_rfl); try exact xi_) | fail)
 apply At.endsRet za_ (fn := Try.f40) (rs := [.cell 6 70]) Anc.refl hro (lb_ rfl) rfl
 ·exact yq_
 ·exact k4_
 ·exact k5_
 ·rfl
 ·exact k111_
 ·exact k7_
 ·exact fun β => rfl
 ·exact k111_
def sEv18 : yp_ := fun args h m => match args with
 | [v1, v2, v3] => bif isI .i64 v1 && isI .i64 v2 && isI .i64 v3 then some (True, .agg [.agg [.int .i64 (iOf v2), .int .i64 (iOf v3), .nat .i64 0], .nat .i64 0, .int .i64 (iOf v1)], [], []) else none
 | _ => none
theorem sEv18_ok : zj_ Try.prog 40 sEv18 := by
 refine ⟨zi_ (by kernel_rfl), fun args h m c v rd wr hs hm hc w0 M β h' w R hrd hwr hst => ?_⟩
 unfold sEv18 at hs
 split at hs
 ·rename_i v1 v2 v3
  obtain ⟨hb, hs⟩ := zl_ hs
  simp only [Option.some.injEq, Prod.mk.injEq] at hs
  obtain ⟨rfl, rfl, rfl, rfl⟩ := hs
  simp only [Bool.and_eq_true] at hb
  obtain ⟨⟨b1, b2⟩, b3⟩ := hb
  refine yl_ (views := []) (ev18_lit (iOf v1) (iOf v2) (iOf v3)) ?_ R hm hwr ?_ ?_ ?_
  ·intro x hx; cases hx
  ·intro β1 hv
   simp only [denL, z4_, z3_, yd_, zs_, zc_, yo_, evS, sr, csl, ssl, zd_ b1, zd_ b2, zd_ b3]
  ·exact k111_
  ·exact k111_
 ·cases hs
theorem eqL_rf {α : Type} [DecidableEq α] (a : List α) : eqL a a = true := by simp [eqL]
def cAw18 : FuncId → Option yp_ := yy_ [(40, sEv18), (59, sBegin), (60, sAO), (31, sDoA), (61, sEqI64), (52, sEqSnd)]
theorem cAw18_ok : ∀ f S, cAw18 f = some S → zj_ Try.prog f S := zq_ ⟨sEv18_ok, sBegin_ok, sAO_ok, sDoA_ok, sEqI64_ok, sEqSnd_ok, trivial⟩
theorem awake18_lit : zp_ Try.prog 23 [] [.gone] (.bool true) [.gone] := by
 have g1 : goE [⟨33, 3, 0, 1, 0⟩, ⟨1, 0, 0, 0, 0⟩] ⟨0, 0, 2, 1, 5⟩ (begS 9 5 2 [0, 0, 0] 0) = 0 := by kernel_rfl
 have d1 : goB [⟨33, 3, 0, 1, 0⟩, ⟨1, 0, 0, 0, 0⟩] ⟨0, 0, 2, 1, 5⟩ (begS 9 5 2 [0, 0, 0] 0) = true := by kernel_rfl
 have g2 : goE [⟨6, 0, 2, 0, 0⟩, ⟨1, 0, 0, 0, 0⟩] ⟨0, 0, 2, 1, 5⟩ (begS 9 5 2 [0, 0, 0] 0) = 0 := by kernel_rfl
 have d2 : goB [⟨6, 0, 2, 0, 0⟩, ⟨1, 0, 0, 0, 0⟩] ⟨0, 0, 2, 1, 5⟩ (begS 9 5 2 [0, 0, 0] 0) = true := by kernel_rfl
 have g3 : goE [⟨6, 0, 2, 0, 0⟩, ⟨1, 0, 0, 0, 0⟩] ⟨0, 0, 2, 1, 5⟩ (begS 9 5 2 [0, 0] 0) = 185 := by kernel_rfl
 have d3 : goB [⟨6, 0, 2, 0, 0⟩, ⟨1, 0, 0, 0, 0⟩] ⟨0, 0, 2, 1, 5⟩ (begS 9 5 2 [0, 0] 0) = false := by kernel_rfl
 have n3 : goE [⟨6, 0, 2, 0, 0⟩, ⟨1, 0, 0, 0, 0⟩] ⟨0, 0, 2, 1, 5⟩ (begS 9 5 2 [0, 0] 0) ≠ 0 := by rw [g3]; decide
 have g4 : goE [⟨8, 2, 0, 0, 1⟩, ⟨1, 0, 0, 0, 0⟩] ⟨0, 0, 2, 1, 5⟩ (begS 9 5 2 [0, 0, 0] 0) = 0 := by kernel_rfl
 have d4 : goB [⟨8, 2, 0, 0, 1⟩, ⟨1, 0, 0, 0, 0⟩] ⟨0, 0, 2, 1, 5⟩ (begS 9 5 2 [0, 0, 0] 0) = true := by kernel_rfl
 have g5 : goE [⟨8, 2, 0, 0, 1⟩, ⟨1, 0, 0, 0, 0⟩] ⟨0, 0, 2, 3, 5⟩ (begS 9 5 2 [0, 0, 0] 0) = 189 := by kernel_rfl
 have d5 : goB [⟨8, 2, 0, 0, 1⟩, ⟨1, 0, 0, 0, 0⟩] ⟨0, 0, 2, 3, 5⟩ (begS 9 5 2 [0, 0, 0] 0) = false := by kernel_rfl
 have n5 : goE [⟨8, 2, 0, 0, 1⟩, ⟨1, 0, 0, 0, 0⟩] ⟨0, 0, 2, 3, 5⟩ (begS 9 5 2 [0, 0, 0] 0) ≠ 0 := by rw [g5]; decide
 have g6 : goE [⟨8, 2, 0, 0, 1⟩, ⟨1, 0, 0, 0, 0⟩] ⟨0, 0, 1, 1, 5⟩ (begS 9 5 2 [0, 0, 0] 0) = 188 := by kernel_rfl
 have d6 : goB [⟨8, 2, 0, 0, 1⟩, ⟨1, 0, 0, 0, 0⟩] ⟨0, 0, 1, 1, 5⟩ (begS 9 5 2 [0, 0, 0] 0) = false := by kernel_rfl
 have n6 : goE [⟨8, 2, 0, 0, 1⟩, ⟨1, 0, 0, 0, 0⟩] ⟨0, 0, 1, 1, 5⟩ (begS 9 5 2 [0, 0, 0] 0) ≠ 0 := by rw [g6]; decide
 have g7 : goE [⟨8, 2, 0, 0, 1⟩, ⟨1, 0, 0, 0, 0⟩] ⟨0, 0, 2, 1, 281474976710655⟩ (begS 9 5 2 [0, 0, 0] 0) = 1800 := by kernel_rfl
 have d7 : goB [⟨8, 2, 0, 0, 1⟩, ⟨1, 0, 0, 0, 0⟩] ⟨0, 0, 2, 1, 281474976710655⟩ (begS 9 5 2 [0, 0, 0] 0) = false := by kernel_rfl
 have n7 : goE [⟨8, 2, 0, 0, 1⟩, ⟨1, 0, 0, 0, 0⟩] ⟨0, 0, 2, 1, 281474976710655⟩ (begS 9 5 2 [0, 0, 0] 0) ≠ 0 := by rw [g7]; decide
 have g8 : goE [⟨1, 0, 0, 0, 0⟩] ⟨0, 0, 2, 1, 5⟩ (begS 9 5 2 [0, 0, 0] 0) = 0 := by kernel_rfl
 have d8 : goB [⟨1, 0, 0, 0, 0⟩] ⟨0, 0, 2, 1, 5⟩ (begS 9 5 2 [0, 0, 0] 0) = true := by kernel_rfl
 obtain ⟨S8, hS8⟩ : ∃ S8, yw_ [⟨1, 0, 0, 0, 0⟩] ⟨0, 0, 2, 1, 5⟩ (begS 9 5 2 [0, 0, 0] 0) = S8 := ⟨_, rfl⟩
 have q8 : S8.ended = true := by rw [← hS8]; kernel_rfl
 have l8 : S8.cells.length = 3 := by rw [← hS8]; kernel_rfl
 have m8 : S8.sends.length = 0 := by rw [← hS8]; kernel_rfl
 have k8 : S8.cells.length ≤ 1000000 := by rw [l8]; decide
 have k9 : S8.sends.length ≤ 1000000 := by rw [m8]; decide
 have g9' : goE [⟨1, 0, 0, 0, 0⟩] ⟨0, 0, 2, 1, 5⟩ S8 = 183 := by rw [← hS8]; kernel_rfl
 have e9 : Sta.mk S8.at_ true S8.regs S8.cells S8.draws S8.sends = S8 := by rw [← q8]
 have g9 : goE [⟨1, 0, 0, 0, 0⟩] ⟨0, 0, 2, 1, 5⟩ ⟨S8.at_, true, S8.regs, S8.cells, S8.draws, S8.sends⟩ = 183 := by rw [e9]; exact g9'
 have d9 : goB [⟨1, 0, 0, 0, 0⟩] ⟨0, 0, 2, 1, 5⟩ ⟨S8.at_, true, S8.regs, S8.cells, S8.draws, S8.sends⟩ = false := by unfold goB; rw [g9]; rfl
 have n9 : goE [⟨1, 0, 0, 0, 0⟩] ⟨0, 0, 2, 1, 5⟩ ⟨S8.at_, true, S8.regs, S8.cells, S8.draws, S8.sends⟩ ≠ 0 := by rw [g9]; decide
 obtain ⟨S1, hS1⟩ : ∃ S1, yw_ [⟨33, 3, 0, 1, 0⟩, ⟨1, 0, 0, 0, 0⟩] ⟨0, 0, 2, 1, 5⟩ (begS 9 5 2 [0, 0, 0] 0) = S1 := ⟨_, rfl⟩
 have q1 : S1.regs 3 = 14 := by rw [← hS1]; kernel_rfl
 have a1 : S1.at_ = 1 := by rw [← hS1]; kernel_rfl
 obtain ⟨S2, hS2⟩ : ∃ S2, yw_ [⟨6, 0, 2, 0, 0⟩, ⟨1, 0, 0, 0, 0⟩] ⟨0, 0, 2, 1, 5⟩ (begS 9 5 2 [0, 0, 0] 0) = S2 := ⟨_, rfl⟩
 have q2 : S2.cells = [0, 0, 9] := by rw [← hS2]; kernel_rfl
 obtain ⟨S4, hS4⟩ : ∃ S4, yw_ [⟨8, 2, 0, 0, 1⟩, ⟨1, 0, 0, 0, 0⟩] ⟨0, 0, 2, 1, 5⟩ (begS 9 5 2 [0, 0, 0] 0) = S4 := ⟨_, rfl⟩
 have q4 : S4.sends = [⟨1, 2, 9⟩] := by rw [← hS4]; kernel_rfl
 refine zf_ (fn := Try.f23) 1 168 0 rfl rfl rfl rfl rfl trivial rfl fun w0 M E hro => ?_
 repeat' (first | refine Ctl.h ?_ | ((with_reducible intro hif); first | (focus (cases hif; done)) | ((try simp only [JH] at hif); try (exfalso; omega))) | ((with_reducible first | apply J22 cAw18_ok za_ | apply J23 fol cAw18_ok za_ | apply J24); (·rfl); (· (simp only [push_cast, ↓JP, Nat.reduceAdd, Nat.reduceEqDiff, Nat.reduceLT, Nat.reduceMul, Nat.reduceLeDiff, reduceCtorEq, reduceIte, ↓JK, JM, JE, cAw18, sEv18, sBegin, sAO, sDoA, sAwG, sAwB, sIDoG, sIDoB, sEqI64, sEqSnd, stS, cB, sB, ym_, nilS, ls_one, ls_two, ls_three, ls_nil, insOf_agg, sndOf_agg, ys_, beg_fold', ya_, z9_, iOf, zc_, eqL_rf, Int.add_zero, inR, inN, Int.cast_ofNat_Int, List.all_cons, List.all_nil, hS8, hS1, hS2, hS4, q8, g9, d9, q1, a1, q2, q4, g1, d1, g2, d2, g3, d3, g4, d4, g5, d5, g6, d6, g7, d7, g8, d8]; rfl)); (try kernel_rfl); (try (focus (first | exact True.intro | ((try simp only [JE, iOf, insOf_agg, sndOf_agg, ls_one, ls_two, ls_three, ls_nil, ys_, beg_fold', Int.cast_ofNat_Int, List.getD_cons_zero, List.getD_cons_succ, zc_]); (repeat' (first | exact True.intro | exact fun _ _ => True.intro | assumption | (refine (⟨?_, ?_, ?_, ?_, ?_, ?_, ?_, ?_, ?_, ?_⟩ : Ins.ok _) <;> decide) | apply And.intro | decide | rfl | omega | (intro q hq; first | rfl | exact hq.elim | ((rcases q with _ | _ | _ | q) <;> first | rfl | (exfalso; omega))) | (intro y hy; simp only [List.mem_cons, List.not_mem_nil, or_false] at hy; rcases hy with rfl | rfl <;> (refine ⟨?_, ?_, ?_, ?_, ?_, ?_, ?_, ?_, ?_, ?_⟩ <;> decide)))); done) | ((try simp only [JS, implies_true, forall_const, yc_, z6_, kndOf, inR, inN]); (repeat' (first | assumption | exact True.intro | omega | apply And.intro)); done))))) | fail)
 apply At.endsRet za_ (fn := Try.f23) (rs := [.tmp 0]) Anc.refl hro (lb_ rfl) rfl
 ·exact yq_
 ·exact k4_
 ·exact k5_
 ·rfl
 ·exact k111_
 ·exact k7_
 ·first | exact fun β => rfl | (intro β; kernel_rfl)
 ·exact k111_
def sAw18 : yp_ := fun args h m => match args with
 | [] => some (True, .bool true, [], [])
 | _ => none
theorem sAw18_ok : zj_ Try.prog 23 sAw18 := by
 refine ⟨zi_ (by kernel_rfl), fun args h m c v rd wr hs hm hc w0 M β h' w R hrd hwr hst => ?_⟩
 unfold sAw18 at hs
 split at hs
 ·skip
  simp only [Option.some.injEq, Prod.mk.injEq] at hs
  obtain ⟨rfl, rfl, rfl, rfl⟩ := hs
  refine yl_ (views := []) (awake18_lit) ?_ R hm hwr ?_ ?_ ?_
  ·intro x hx; cases hx
  ·intro β1 hv
   simp only [denL, z4_, z3_, yd_, zs_, zc_, yo_, evS, sr, csl, ssl]
  ·exact k111_
  ·exact k111_
 ·cases hs
def prT (P : List Ins) : HB := .own 202 (.arr P.length 5 (prS P)) false
theorem getD_app_l {α : Type} {l m : List α} {q : Nat} {d : α} (h : q < l.length) : (l ++ m).getD q d = l.getD q d := by
 rw [List.getD_eq_getElem?_getD, List.getD_eq_getElem?_getD, List.getElem?_append_left h]
theorem less_catQ {t : Nat} {σ : Nat → Nat} {b : Bool} (S : List Ins) (x : Ins) {n : Nat} {U : List Ins} (hn : S.length = n) (hU : S ++ [x] = U) {m : Nat} (hm : m = U.length) {g : Nat → SV} {xv z : SV} (hg : g = fun q => SV.ite (decide (q < n)) (yo_ (S.getD q ⟨0, 0, 0, 0, 0⟩)) ([xv].getD (q - n) z)) (hx : ∀ β, xv.cl β = x.cells) :
  Less (.own t (.arr m 5 g) b) ((HB.own t (.arr m 5 (prS U)) b).ren σ) := by
 subst hm
 have e : (HB.own t (.arr U.length 5 (prS U)) b).ren σ = .own t (.arr U.length 5 (prS U)) b := by
  simp only [HB.ren, SV.ren]; rw [prS_ren]
 rw [e]
 refine .val (fun β => arrCl fun q hq => ?_) (fun n1 k1 f1 e => by injection e with e1 e2 e3; subst e1 e2; exact ⟨_, rfl⟩) (fun n1 k1 f1 e => by injection e with e1 e2 e3; subst e1 e2; exact ⟨_, rfl⟩)
 subst hg hU hn
 dsimp only
 rw [ite_eq]
 unfold prS
 by_cases h : q < S.length
 ·simp only [h, decide_true, cond_true]
  rw [getD_app_l h]
 ·have hq' : q = S.length := by rw [List.length_append] at hq; simp at hq; omega
  subst hq'
  simp only [h, decide_false, cond_false, Nat.sub_self, List.getD_cons_zero, hx]
  rw [List.getD_eq_getElem?_getD, List.getElem?_append_right (Nat.le_refl _), Nat.sub_self, isIns_cl (zu_ _), z7_]; rfl
theorem prS_st (P : List Ins) (h : HM) (q : Nat) : zb_ h (prS P q) := by simp [prS, yo_, zb_, ze_]
theorem take_sn {l : List Ins} {k : Nat} (hk : k < l.length) : l.take k ++ [l.getD k ⟨0, 0, 0, 0, 0⟩] = l.take (k + 1) :=  d1_
theorem th14_lit (P : List Ins) (p1 : Nat) (hn : P.length ≤ 1000000) : zp_ Try.prog 67 [.sl 1 2 [] 5 0 P.length (some p1)] [.gone, .gone, .ro (.arr P.length 5 (prS P))] (.sl 3 3 [] 5 0 P.length none) [.gone, .gone, .gone, prT P] := by
 refine zf_ (fn := Try.f67) 3 18 0 rfl rfl rfl rfl rfl (by simp only [ze_, zb_, hp, zo_, prS, yo_, zm_, sndS, prT, HB.stable]; simp [HB.born]) rfl fun w0 M E hro => ?_
 repeat' (first | refine Ctl.h ?_ | ((with_reducible intro hif); first | (focus (cases hif; done)) | ((try simp only [JH] at hif); try (exfalso; omega))) | ((with_reducible first | apply J22 zx_ za_ | apply J23 fol zx_ za_ | apply J24); (·rfl); (· exact k92_); (try kernel_rfl); try exact xi_) | fail)
 refine WF.nilFr (φ2 := [(3, .sl 3 3 [] 5 0 0 none), (6, .sl 1 2 [] 5 0 P.length (some p1)), (7, .nat .i64 P.length), (8, .nat .i64 0)]) 202 5 (prS []) (fun h q => prS_st [] h q) rfl ?_ ?_ ?_
 ·refine ⟨⟨_, rfl, fun β h0 hx => (nilB_cl h0 (show β 3 = (none, 0) from hx) 5).symm⟩, ⟨_, rfl, fun β _ _ => rfl⟩, ⟨_, rfl, fun β _ _ => rfl⟩, ⟨_, rfl, fun β _ _ => rfl⟩, trivial⟩
 ·simp [StableF, zb_, hp, HB.born]
 simp only [List.cons_append, List.nil_append]
 have hz : Less (.own 202 (.arr 0 5 (prS [])) false) (.own 202 (.arr 0 5 (prS (P.take 0))) false) := .same _
 refine WF.loopAt (fun (j : Nat) => j ≤ P.length) (fun (j : Nat) => [(3, .sl 3 3 [] 5 0 j none), (6, .sl 1 2 [] 5 0 P.length (some p1)), (7, .nat .i64 P.length), (8, .nat .i64 j)]) (fun (j : Nat) => [.gone, .gone, .ro (.arr P.length 5 (prS P)), .own 202 (.arr j 5 (prS (P.take j))) false]) (fun (j : Nat) => P.length - j) 0 (Nat.zero_le _) ?_ ?_ rfl ?_ ?_ rfl ?_
 ·exact k8_
 ·exact k5_
 ·exact k112_
 ·exact k112_
 intro j hj
 by_cases hjl : j < P.length
 ·have hTl : (P.take j).length = j := by rw [List.length_take]; omega
  have hUl : j + 1 = (P.take (j + 1)).length := by rw [List.length_take]; omega
  repeat' (first | refine Ctl.h ?_ | ((with_reducible intro hif); first | (focus (cases hif; done)) | ((try simp only [JH] at hif); try (exfalso; omega))) | ((with_reducible first | apply J22 zx_ za_ | apply J23 fol zx_ za_ | apply J24); (·rfl); (· (simp only [push_cast, ↓JP, Nat.reduceAdd, Nat.reduceEqDiff, Nat.reduceLT, Nat.reduceMul, Nat.reduceLeDiff, reduceCtorEq, reduceIte, ↓JK, hjl, inR, inN, List.all_cons, List.all_nil]; rfl)); (try kernel_rfl); try exact k26_) | fail)
  refine At.nextPick [0, 1, 2, 6] (j + 1) ?_ rfl rfl rfl ?_ rfl ?_ ?_ ?_ rfl
  ·omega
  ·(repeat' (first | exact trivial | exact .inl rfl | exact .inr (.same _) | exact .inr .loose | exact .inr (.arr (by assumption)) | apply And.intro | (exact .inr (less_catQ (P.take j) (P.getD j ⟨0, 0, 0, 0, 0⟩) hTl (take_sn hjl) hUl rfl (fun β => by rw [isIns_cl (zu_ _), z7_])))))
  ·exact k112_
  ·exact k22_
  ·exact k112_
 ·obtain rfl : j = P.length := by omega
  repeat' (first | refine Ctl.h ?_ | ((with_reducible intro hif); first | (focus (cases hif; done)) | ((try simp only [JH] at hif); try (exfalso; omega))) | ((with_reducible first | apply J22 zx_ za_ | apply J23 fol zx_ za_ | apply J24); (·rfl); (· exact k116_); (try kernel_rfl); try exact xi_) | fail)
  apply At.endsPick [0, 1, 2, 3] za_ (fn := Try.f67) (rs := [.tmp 2]) Anc.refl hro (lb_ rfl) rfl
  ·exact yq_
  ·exact k14_
  ·rfl
  ·rfl
  ·rfl
  ·exact k113_
  ·rfl
  ·exact k112_
  ·exact k7_
  ·exact fun β => rfl
  ·exact k112_
def sTh14 : yp_ := fun args h m => match args with
 | [v1] => match y6_ h 5 (.tup []) v1 with
  | some (c1, n1, f1, r1) => some (c1 ∧ (∀ q, q < n1 → isIns (f1 q) = true) ∧ (n1 ≤ 1000000), .sl m m [] 5 0 (ls zt_ n1 f1).length none, r1, [(m, prT (ls zt_ n1 f1))])
  | _ => none
 | _ => none
theorem sTh14_ok : zj_ Try.prog 67 sTh14 := by
 refine ⟨zi_ (by kernel_rfl), fun args h m c v rd wr hs hm hc w0 M β h' w R hrd hwr hst => ?_⟩
 unfold sTh14 at hs
 split at hs
 ·rename_i v1
  split at hs
  ·rename_i c1 n1 f1 r1 a1
   simp only [Option.some.injEq, Prod.mk.injEq] at hs
   obtain ⟨rfl, rfl, rfl, rfl⟩ := hs
   obtain ⟨k1, g1, y1⟩ := hc
   obtain ⟨A1, p1, d1, e1, t1⟩ := zg_ R a1 k1 (fun i hi => hrd i hi) (by omega)
   refine yl_ (views := [⟨5, (ls zt_ n1 f1).length, prS (ls zt_ n1 f1), A1, p1⟩]) (th14_lit (ls zt_ n1 f1) p1 (by rw [zc_]; exact y1)) ?_ R hm hwr ?_ ?_ ?_
   ·intro x hx
    simp only [List.mem_cons, List.not_mem_nil, or_false] at hx
    subst hx
    ·exact viewIns t1 e1 g1
   ·exact d30_
   ·exact k112_
   ·exact k112_
  ·cases hs
 ·cases hs
theorem less_catR {t : Nat} {σ : Nat → Nat} {b : Bool} (S : List Snd) (x : Snd) {n : Nat} {U : List Snd} (hn : S.length = n) (hU : S ++ [x] = U) {m : Nat} (hm : m = U.length) {g : Nat → SV} {xv z : SV} (hg : g = fun q => SV.ite (decide (q < n)) (sndS (S.getD q ⟨0, 0, 0⟩)) ([xv].getD (q - n) z)) (hx : ∀ β, xv.cl β = (sndS x).cl β) :
  Less (.own t (.arr m 3 g) b) ((HB.own t (.arr m 3 (zm_ U)) b).ren σ) := by
 subst hm
 have e : (HB.own t (.arr U.length 3 (zm_ U)) b).ren σ = .own t (.arr U.length 3 (zm_ U)) b := by
  simp only [HB.ren, SV.ren]; rw [sndsS_ren]
 rw [e]
 refine .val (fun β => arrCl fun q hq => ?_) (fun n1 k1 f1 e => by injection e with e1 e2 e3; subst e1 e2; exact ⟨_, rfl⟩) (fun n1 k1 f1 e => by injection e with e1 e2 e3; subst e1 e2; exact ⟨_, rfl⟩)
 subst hg hU hn
 dsimp only
 rw [ite_eq]
 unfold zm_
 by_cases h : q < S.length
 ·simp only [h, decide_true, cond_true]
  rw [getD_app_l h]
 ·have hq' : q = S.length := by rw [List.length_append] at hq; simp at hq; omega
  subst hq'
  simp only [h, decide_false, cond_false, Nat.sub_self, List.getD_cons_zero, hx]
  rw [List.getD_eq_getElem?_getD, List.getElem?_append_right (Nat.le_refl _), Nat.sub_self]; rfl
theorem take_snS {l : List Snd} {k : Nat} (hk : k < l.length) : l.take k ++ [l.getD k ⟨0, 0, 0⟩] = l.take (k + 1) :=  d1_
def cTh18 : FuncId → Option yp_ := yy_ [(62, sCl64)]
theorem cTh18_ok : ∀ f S, cTh18 f = some S → zj_ Try.prog f S := zq_ ⟨sCl64_ok, trivial⟩
theorem th18_lit (s : Sta) (p1 p2 : Nat) (hc : s.cells.length ≤ 1000000) (hs : s.sends.length ≤ 1000000) : zp_ Try.prog 65 [.agg [.int .i64 s.at_, .bool s.ended, .arr 8 1 (fun q => .int .i64 (s.regs q)), .sl 1 2 [] 1 0 s.cells.length (some p1), .int .i64 s.draws, .sl 3 4 [] 3 0 s.sends.length (some p2)]] [.gone, .gone, .ro (.arr s.cells.length 1 (zo_ s.cells)), .gone, .ro (.arr s.sends.length 3 (zm_ s.sends))]
  (sr s (.sl 5 5 [] 1 0 s.cells.length none) (.sl 6 6 [] 3 0 s.sends.length none)) [.gone, .gone, .gone, .gone, .gone, cRf s.cells, sRf s.sends] := by
 refine zf_ (fn := Try.f65) 5 33 0 rfl rfl rfl rfl rfl (by simp only [ze_, zb_, hp, zo_, prS, yo_, zm_, sndS, prT, cRf, sRf, sr, HB.stable]; simp [HB.born]) rfl fun w0 M E hro => ?_
 repeat' (first | refine Ctl.h ?_ | ((with_reducible intro hif); first | (focus (cases hif; done)) | ((try simp only [JH] at hif); try (exfalso; omega))) | ((with_reducible first | apply J22 cTh18_ok za_ | apply J23 fol cTh18_ok za_ | apply J24); (·rfl); (· (simp only [push_cast, ↓JP, Nat.reduceAdd, Nat.reduceEqDiff, Nat.reduceLT, Nat.reduceMul, Nat.reduceLeDiff, reduceCtorEq, reduceIte, ↓JK, JE, cTh18, sCl64, xj_, xm_, cRf, sRf, sr, inR, inN]; rfl)); (try kernel_rfl); (try (focus (first | exact True.intro | ((try simp only [implies_true, forall_const, xj_, xm_, zc_, Nat.zero_add]); (repeat' (first | exact True.intro | assumption | omega | apply And.intro | rfl | intro _)); done) | ((try simp only [JS, implies_true, forall_const, yc_, z6_, kndOf, inR, inN]); (repeat' (first | assumption | exact True.intro | omega | apply And.intro)); done))))) | fail)
 refine WF.nilIn 200 3 (zm_ []) 8 135 (.agg [.int .i64 s.at_, .bool s.ended, .arr 8 1 (fun q => .int .i64 (s.regs q)), .sl 7 7 [] 1 0 s.cells.length none, .int .i64 s.draws, .sl 0 0 [] 0 0 0 (some 0)]) (.agg [.int .i64 s.at_, .bool s.ended, .arr 8 1 (fun q => .int .i64 (s.regs q)), .sl 7 7 [] 1 0 s.cells.length none, .int .i64 s.draws, .sl 9 9 [] 3 0 0 none]) true (fun _ q => sndsS_stable q) rfl (fun β b0 hβ => by
   have e := nilB_cl b0 (show β 9 = (none, 0) from hβ) 3
   simp only [SV.cl, SV.den, denL] at e ⊢
   rw [e]) (fun h hb => by
   have k7 := hb 7 (show (7 : Nat) ≤ 9 by decide)
   have k9 := hb 9 (show (9 : Nat) ≤ 9 by decide)
   simp [zb_, ze_, k7, k9]) rfl (fun n k f e => by cases e) (fun n k f e => by cases e) rfl ?_
 simp only [setH, List.cons_append, List.nil_append]
 have hz : Less (.own 200 (.arr 0 3 (zm_ [])) false) (.own 200 (.arr 0 3 (zm_ (s.sends.take 0))) false) := .same _
 refine WF.loopAt (fun (j : Nat) => j ≤ s.sends.length) (fun (j : Nat) => [(2, .ptr 6 []), (3, .ptr 8 []), (19, .sl 3 4 [] 3 0 s.sends.length (some p2)), (20, .nat .i64 s.sends.length), (21, .nat .i64 j)]) (fun (j : Nat) => [.gone, .gone, .ro (.arr s.cells.length 1 (zo_ s.cells)), .gone, .ro (.arr s.sends.length 3 (zm_ s.sends)), .gone, .own 135 (.agg [.nat .i64 0, .bool false, .arr 8 1 (fun _ => .nat .i64 0), .sl 0 0 [] 0 0 0 (some 0), .nat .i64 0, .sl 0 0 [] 0 0 0 (some 0)]) true, cRf s.cells, .own 135 (.agg [.int .i64 s.at_, .bool s.ended, .arr 8 1 (fun q => .int .i64 (s.regs q)), .sl 7 7 [] 1 0 s.cells.length none, .int .i64 s.draws, .sl 9 9 [] 3 0 j none]) true, .own 200 (.arr j 3 (zm_ (s.sends.take j))) false]) (fun (j : Nat) => s.sends.length - j) 0 (Nat.zero_le _) ?_ ?_ rfl ?_ ?_ rfl ?_
 ·exact k8_
 ·exact k5_
 ·exact k114_
 ·exact k114_
 intro j hj
 by_cases hjl : j < s.sends.length
 ·have hTl : (s.sends.take j).length = j := by rw [List.length_take]; omega
  have hUl : j + 1 = (s.sends.take (j + 1)).length := by rw [List.length_take]; omega
  repeat' (first | refine Ctl.h ?_ | ((with_reducible intro hif); first | (focus (cases hif; done)) | ((try simp only [JH] at hif); try (exfalso; omega))) | ((with_reducible first | apply J22 cTh18_ok za_ | apply J23 fol cTh18_ok za_ | apply J24); (·rfl); (· (simp only [push_cast, ↓JP, Nat.reduceAdd, Nat.reduceEqDiff, Nat.reduceLT, Nat.reduceMul, Nat.reduceLeDiff, reduceCtorEq, reduceIte, ↓JK, hjl, inR, inN, sndS, List.all_cons, List.all_nil]; rfl)); (try kernel_rfl); try exact k26_) | fail)
  refine At.nextPick [0, 1, 2, 3, 4, 5, 6, 7, 8, 12] (j + 1) ?_ rfl rfl rfl ?_ rfl ?_ ?_ ?_ rfl
  ·omega
  ·(repeat' (first | exact trivial | exact .inl rfl | exact .inr (.same _) | exact .inr .loose | exact .inr (.arr (by assumption)) | apply And.intro | (exact .inr (less_catR (s.sends.take j) (s.sends.getD j ⟨0, 0, 0⟩) hTl (take_snS hjl) hUl rfl (fun β => rfl)))))
  ·exact k114_
  ·exact k22_
  ·exact k114_
 ·obtain rfl : j = s.sends.length := by omega
  repeat' (first | refine Ctl.h ?_ | ((with_reducible intro hif); first | (focus (cases hif; done)) | ((try simp only [JH] at hif); try (exfalso; omega))) | ((with_reducible first | apply J22 cTh18_ok za_ | apply J23 fol cTh18_ok za_ | apply J24); (·rfl); (· exact k116_); (try kernel_rfl); try exact xi_) | fail)
  apply At.endsPick [0, 1, 2, 3, 4, 7, 9] za_ (fn := Try.f65) (rs := [.cell 2 135]) Anc.refl hro (lb_ rfl) rfl
  ·exact yq_
  ·exact k14_
  ·rfl
  ·rfl
  ·rfl
  ·exact k113_
  ·rfl
  ·exact k114_
  ·exact k7_
  ·exact fun β => rfl
  ·exact k114_
end Go.Proofs.Ytmljmabbopkpiaa.Vm
end
end

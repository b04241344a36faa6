import Derived.Test.YtjliakjbdcplcaaGreatR1
import Derived.Test.YtjliakjbdcplcaaGreatR8
import Derived.Test.YtjliakjbdcplcaaGreatR9
import Derived.Test.YtjliakjbdcplcaaGreatR11
import Derived.Test.YtjliakjbdcplcaaGreatR24
import Derived.Test.YtjliakjbdcplcaaGreatR30
import Derived.Test.YtjliakjbdcplcaaGreatR32
import Derived.Test.YtjliakjbdcplcaaGreatR35
import Derived.Test.YtjliakjbdcplcaaGreatR38
import Derived.IntWalk
import Derived.Laws.ResultCell
import Derived.Laws.OwnMore
import Derived.Lib.OthersKept
import Derived.Deep.RegionHeld3
import Derived.StillTailTactics
import Derived.Deep.QuietTactic
import Derived.Deep.RegionLaw
import Derived.Deep.DrawnRows
import Derived.Laws.EntriesVeiled
import Derived.BigQuiet
import Derived.WalkSpells
import Derived.Handy
import Derived.Deep.DeepCutAuto
set_option linter.unusedSimpArgs false
set_option linter.unusedVariables false
set_option maxRecDepth 100000
set_option maxHeartbeats 4000000
section
namespace Go.Proofs.YtjliakjbdcplcaaGreat.Vm
open Go.RowKit
def rGoRQ (r : Nat) (f : Int) (h : HM) (m : Nat) : Option (Prop × SV × List Nat × List (Nat × HB)) := match h r with
 | .own t (.agg [.ptr e [], .fn fi [.ptr a [], .ptr b [], .ptr c []], .nat .i64 u, .bool w]) true => bif Nat.beq t 52 && Nat.beq fi 83 && z8_ [0, r, e, a, b, c] && ((h e).born && (h a).born && (h b).born && (h c).born) then some (rrE f ≠ 0, .tup [.bool false, .int .i64 2], [r, e, a, b, c], [(r, rB e a b c u w)]) else none
 | _ => none
def rGoR : yt_ := fun args h m => match args with
 | [.ptr r [], .int .i64 f] => rGoRQ r f h m
 | [.ptr r [], .nat .i64 n] => rGoRQ r n h m
 | _ => none
theorem rGoR_ok : zh_ Tryz.prog 15 rGoR := by
 refine ⟨zf_ (by kernel_rfl), fun args h m c v rd wr hs hm hc w0 M β h' w R hrd hwr hst => ?_⟩
 unfold rGoR at hs
 split at hs
 ·rename_i r f
  unfold rGoRQ at hs
  split at hs
  ·rename_i t e fi a b c u w hr
   obtain ⟨hb, hs⟩ := zj_ hs
   simp only [Option.some.injEq, Prod.mk.injEq] at hs
   obtain ⟨rfl, rfl, rfl, rfl⟩ := hs
   simp only [Bool.and_eq_true] at hb
   obtain ⟨⟨⟨b1, b2⟩, hnd⟩, ⟨⟨b3, b4⟩, b5⟩, b6⟩ := hb
   have b1 := Nat.eq_of_beq_eq_true b1
   have b2 := Nat.eq_of_beq_eq_true b2
   subst b1 b2
   exact bun_ok (h := h) (m := m) [0, r, e, a, b, c] (goR_lit u w f hc) R rfl (by simp) rfl rfl hnd
    ⟨Fit.gone (by rw [R.nil0]; rfl), bun_run hr (hrd r (by simp)) rfl rfl rfl rfl, Fit.gone (by rw [hrd e (by simp)]; exact b3), Fit.gone (by rw [hrd a (by simp)]; exact b4), Fit.gone (by rw [hrd b (by simp)]; exact b5), Fit.gone (by rw [hrd c (by simp)]; exact b6), trivial⟩ hm
    (fun p hp => by cases hp) (by simp) rfl
    ⟨trivial, rB_st rfl rfl rfl rfl, trivial, trivial, trivial, trivial, trivial⟩ ⟨rfl, trivial, trivial⟩
    ⟨trivial, rB_st rfl rfl rfl rfl, trivial, trivial, trivial, trivial, trivial⟩ (by simp [Stable, zd_]) rfl rfl rfl
  ·cases hs
 ·rename_i r f
  unfold rGoRQ at hs
  split at hs
  ·rename_i t e fi a b c u w hr
   obtain ⟨hb, hs⟩ := zj_ hs
   simp only [Option.some.injEq, Prod.mk.injEq] at hs
   obtain ⟨rfl, rfl, rfl, rfl⟩ := hs
   simp only [Bool.and_eq_true] at hb
   obtain ⟨⟨⟨b1, b2⟩, hnd⟩, ⟨⟨b3, b4⟩, b5⟩, b6⟩ := hb
   have b1 := Nat.eq_of_beq_eq_true b1
   have b2 := Nat.eq_of_beq_eq_true b2
   subst b1 b2
   exact bun_ok (h := h) (m := m) [0, r, e, a, b, c] (litNat (goR_lit u w (f : Int) hc)) R rfl (by simp) rfl rfl hnd
    ⟨Fit.gone (by rw [R.nil0]; rfl), bun_run hr (hrd r (by simp)) rfl rfl rfl rfl, Fit.gone (by rw [hrd e (by simp)]; exact b3), Fit.gone (by rw [hrd a (by simp)]; exact b4), Fit.gone (by rw [hrd b (by simp)]; exact b5), Fit.gone (by rw [hrd c (by simp)]; exact b6), trivial⟩ hm
    (fun p hp => by cases hp) (by simp) rfl
    ⟨trivial, rB_st rfl rfl rfl rfl, trivial, trivial, trivial, trivial, trivial⟩ ⟨rfl, trivial, trivial⟩
    ⟨trivial, rB_st rfl rfl rfl rfl, trivial, trivial, trivial, trivial, trivial⟩ (by simp [Stable, zd_]) rfl rfl rfl
  ·cases hs
 ·cases hs
def rUsedQ (r : Nat) (f : Int) (h : HM) (m : Nat) : Option (Prop × SV × List Nat × List (Nat × HB)) := match h r with
 | .own t (.agg [.ptr e [], .fn fi [.ptr a [], .ptr b [], .ptr c []], .nat .i64 u, .bool w]) true => bif Nat.beq t 52 && Nat.beq fi 83 && z8_ [0, r, e, a, b, c] && ((h e).born && (h a).born && (h b).born && (h c).born) then some (True, .nat .i64 u, [r, e, a, b, c], [(r, rB e a b c u w)]) else none
 | _ => none
def rUsed : yt_ := fun args h m => match args with
 | [.ptr r []] => rUsedQ r 0 h m
 | _ => none
theorem rUsed_ok : zh_ Tryz.prog 19 rUsed := by
 refine ⟨zf_ (by kernel_rfl), fun args h m c v rd wr hs hm hc w0 M β h' w R hrd hwr hst => ?_⟩
 unfold rUsed at hs
 split at hs
 ·rename_i r
  unfold rUsedQ at hs
  split at hs
  ·rename_i t e fi a b c u w hr
   obtain ⟨hb, hs⟩ := zj_ hs
   simp only [Option.some.injEq, Prod.mk.injEq] at hs
   obtain ⟨rfl, rfl, rfl, rfl⟩ := hs
   simp only [Bool.and_eq_true] at hb
   obtain ⟨⟨⟨b1, b2⟩, hnd⟩, ⟨⟨b3, b4⟩, b5⟩, b6⟩ := hb
   have b1 := Nat.eq_of_beq_eq_true b1
   have b2 := Nat.eq_of_beq_eq_true b2
   subst b1 b2
   exact bun_ok (h := h) (m := m) [0, r, e, a, b, c] (used_lit u w) R rfl (by simp) rfl rfl hnd
    ⟨Fit.gone (by rw [R.nil0]; rfl), bun_run hr (hrd r (by simp)) rfl rfl rfl rfl, Fit.gone (by rw [hrd e (by simp)]; exact b3), Fit.gone (by rw [hrd a (by simp)]; exact b4), Fit.gone (by rw [hrd b (by simp)]; exact b5), Fit.gone (by rw [hrd c (by simp)]; exact b6), trivial⟩ hm
    (fun p hp => by cases hp) (by simp) rfl
    ⟨trivial, rB_st rfl rfl rfl rfl, trivial, trivial, trivial, trivial, trivial⟩ ⟨rfl, trivial⟩
    ⟨trivial, rB_st rfl rfl rfl rfl, trivial, trivial, trivial, trivial, trivial⟩ (by simp [Stable, zd_]) rfl rfl rfl
  ·cases hs
 ·cases hs
theorem bun_clA {ρ : Nat → Nat} {h h' : HM} {a i x n : Nat} (ha : h a = clA i n) (ea : h' a = h a) (hx : ρ x = i) : Bun1 ρ (h' a) (clA x n) := by
 show Less (h' a) (.own 22 ((SV.sl x x [] 5 0 n none).ren ρ) true)
 rw [ea, ha]
 simp only [SV.ren, hx]
 exact .same _
theorem bun_clB {ρ : Nat → Nat} {h h' : HM} {b : Nat} {v : Evi} (hb : h b = clB v) (eb : h' b = h b) : Bun1 ρ (h' b) (clB v) := by
 show Less (h' b) (.own 25 ((evS v).ren ρ) true)
 rw [eb, hb]
 exact .same _
theorem bun_clJO {ρ : Nat → Nat} {h h' : HM} {j : Nat} {s : Sta} {cf : Nat → SV} (hj : h j = .own 2 (.arr s.cells.length 1 cf) false) (hr : ∀ q, q < s.cells.length → isI .i64 (cf q) = true) (hq : s.cells = ls iOf s.cells.length cf) (ej : h' j = h j) : Bun1 ρ (h' j) (cB s) := by
 show Less (h' j) (.own 2 (.arr s.cells.length 1 (i64S s.cells)) false)
 rw [ej, hj]
 refine .val (fun β => arrCl fun q hlt => ?_) (fun n k f e => by injection e with e1 e2 e3; subst e1 e2; exact ⟨_, rfl⟩) (fun n k f e => by injection e with e1 e2 e3; subst e1 e2; exact ⟨_, rfl⟩)
 rw [isI_cl (hr q hlt)]
 unfold i64S
 rw [hq, ls_getD hlt]; rfl
def rBack : yt_ := fun args h m => match args with
 | [.ptr r []] => match h r with
  | .own t (.agg [.ptr e [], .fn fi [.ptr a [], .ptr b [], .ptr c []], .nat .i64 u, .bool w]) true => match clP h a b c with
   | some (P, v, s, i, j, ok) => bif Nat.beq t 52 && Nat.beq fi 83 && z8_ [0, r, e, a, b, c, i, j] && (h e).born then
     some (ok ∧ (∀ x ∈ P, x.ok) ∧ P.length ≤ 1000000 ∧ s.cells.length ≤ 1000000 ∧ yv_ P v s = 0, .int .i64 0, [r, e, a, b, c, i, j],
      [(r, rB m a b c 0 false), (a, clA i P.length), (b, clB v), (c, clC s j), (i, prO P), (j, cB s), (m, eB (m + 1) (m + 4) P.length), (m + 1, mB s v Ins0 (m + 2) (m + 3)), (m + 2, cB s), (m + 3, sB s), (m + 4, prO P)]) else none
   | none => none
  | _ => none
 | _ => none
theorem rBack_ok : zh_ Tryz.prog 16 rBack := by
 refine ⟨zf_ (by kernel_rfl), fun args h m c v rd wr hs hm hc w0 M β h' w R hrd hwr hst => ?_⟩
 unfold rBack at hs
 split at hs
 ·rename_i r
  split at hs
  ·rename_i t e fi a b c u w hr
   split at hs
   ·rename_i P v s i j ok hcp
    obtain ⟨hb, hs⟩ := zj_ hs
    simp only [Option.some.injEq, Prod.mk.injEq] at hs
    obtain ⟨rfl, rfl, rfl, rfl⟩ := hs
    simp only [Bool.and_eq_true] at hb
    obtain ⟨⟨⟨b1, b2⟩, hnd⟩, be⟩ := hb
    have b1 := Nat.eq_of_beq_eq_true b1
    have b2 := Nat.eq_of_beq_eq_true b2
    subst b1 b2
    obtain ⟨hs0, ok2, rg, cf, rfl, hpp, ha, hbb, hcc, hj, hq, hql⟩ := clP_val hcp
    obtain ⟨⟨hok2, hrg, hcf⟩, hP, hn, hcl, hE⟩ := hc
    have hwrm : ∀ p ∈ [(m, eB (m + 1) (m + 4) P.length), (m + 1, mB s v Ins0 (m + 2) (m + 3)), (m + 2, cB s), (m + 3, sB s), (m + 4, prO P)], h' p.1 = h p.1 := fun p hp => hwr p (.tail _ (.tail _ (.tail _ (.tail _ (.tail _ (.tail _ hp))))))
    exact bun_ok (h := h) (m := m) [0, r, e, a, b, c, i, j] (back_lit P v s u w hs0 hP hn hcl hE) R rfl (by simp) rfl rfl hnd
     ⟨Fit.gone (by rw [R.nil0]; rfl), bun_run hr (hrd r (by simp)) rfl rfl rfl rfl, Fit.gone (by rw [hrd e (by simp)]; exact be), bun_clA ha (hrd a (by simp)) rfl, bun_clB hbb (hrd b (by simp)), (bun_clC hcc hrg hq (hrd c (by simp)) rfl rfl).2, bun_prO hpp hok2 (hrd i (by simp)), bun_clJO hj hcf hql (hrd j (by simp)), trivial⟩ hm
     (fun p hp => by
      simp only [newB, List.drop, List.length_cons, List.length_nil, List.mem_cons, List.not_mem_nil, or_false] at hp
      rcases hp with rfl | rfl | rfl | rfl | rfl
      ·exact hwrm (m, eB (m + 1) (m + 4) P.length) (by simp)
      ·exact hwrm (m + 1, mB s v Ins0 (m + 2) (m + 3)) (by simp)
      ·exact hwrm (m + 2, cB s) (by simp)
      ·exact hwrm (m + 3, sB s) (by simp)
      ·exact hwrm (m + 4, prO P) (by simp)) (by simp) rfl
     ⟨trivial, rB_st rfl rfl rfl rfl, trivial, clA_st rfl, clB_st, clC_st rfl rfl, prO_st, cB_st, trivial⟩ ⟨rfl, trivial⟩
     ⟨trivial, rB_st rfl rfl rfl rfl, trivial, clA_st rfl, clB_st, clC_st rfl rfl, prO_st, cB_st, eB_st rfl rfl, mB_st rfl rfl, cB_st, sB_st, prO_st, trivial⟩ trivial rfl rfl (by
      show [(r, (rB 8 3 4 5 0 false).ren _), (a, (clA 6 _).ren _), (b, (clB v).ren _), (c, (clC s 7).ren _), (i, (prO P).ren _), (j, (cB s).ren _), (m, (eB 9 12 _).ren _), (m + 1, (mB s v Ins0 10 11).ren _), (m + 2, (cB s).ren _), (m + 3, (sB s).ren _), (m + 4, (prO P).ren _)] = _
      rw [rB_ren, eB_ren, mB_ren, cB_ren, sB_ren, prO_ren]
      simp [xw_, clA, clB, clC, HB.ren, SV.ren, renL, fsS, evS])
   ·cases hs
  ·cases hs
 ·cases hs
theorem eqI64_lit (xs ys : List Int) (p1 p2 : Nat) (hx : xs.length ≤ 281474976710656) : zp_ Tryz.prog 44 [.sl 1 2 [] 1 0 xs.length (some p1), .sl 3 4 [] 1 0 ys.length (some p2)] [.gone, .gone, .ro (.arr xs.length 1 (i64S xs)), .gone, .ro (.arr ys.length 1 (i64S ys))] (.bool (eqL xs ys)) [.gone] := by
 refine ze_ (fn := Tryz.f44) 5 26 0 rfl rfl rfl rfl rfl (by simp only [zd_, Stable, hp]; simp [HB.born]) rfl fun w0 M E hro => ?_
 repeat' (first | refine Ctl.h ?_ | ((with_reducible intro hif); first | (focus (cases hif; done)) | ((try simp only [JH] at hif); try (exfalso; omega))) | ((with_reducible first | apply J22 zs_ za_ | apply J23 fol zs_ za_ | apply J24); (·rfl); (· exact k15_); (try kernel_rfl); try exact y5_) | fail)
 ·have hne : xs ≠ ys := fun e => hif (by rw [e])
  apply At.endsRet za_ (fn := Tryz.f44) (rs := [.tmp 4]) Anc.refl hro (lb_ rfl) rfl
  ·exact k11_
  ·exact ys_
  ·exact k6_
  ·rfl
  ·exact k65_
  ·exact zx_
  ·rw [eqL_false hne]; exact fun β => rfl
  ·exact k65_
 ·refine WF.loopAt (fun j => j ≤ xs.length ∧ ∀ q, q < j → xs.getD q 0 = ys.getD q 0) (fun j => [(0, .sl 1 2 [] 1 0 xs.length (some p1)), (1, .sl 3 4 [] 1 0 ys.length (some p2)), (12, .nat .i64 xs.length), (13, .nat .i64 j)]) (fun j => [.gone, .gone, .ro (.arr xs.length 1 (i64S xs)), .gone, .ro (.arr ys.length 1 (i64S ys))]) (fun j => xs.length - j) 0 ⟨Nat.zero_le _, fun q hq => absurd hq (Nat.not_lt_zero q)⟩ ?_ ?_ rfl ?_ ?_ rfl ?_
  ·exact k5_
  ·exact k6_
  ·exact k65_
  ·exact k65_
  have hlen := hif
  rintro j ⟨hj, heq⟩
  repeat' (first | refine Ctl.h ?_ | ((with_reducible intro hif); first | (focus (cases hif; done)) | ((try simp only [JH] at hif); try (exfalso; omega))) | ((with_reducible first | apply J22 zs_ za_ | apply J23 fol zs_ za_ | apply J24); (·rfl); (· (simp only [push_cast, ↓JP, Nat.reduceAdd, Nat.reduceEqDiff, Nat.reduceLT, Nat.reduceMul, Nat.reduceLeDiff, reduceCtorEq, reduceIte, i64S, i64S, inN]; rfl)); (try kernel_rfl); try exact k73_) | fail)
  ·have hne : xs ≠ ys := by rintro rfl; simp at hif
   apply At.endsRet za_ (fn := Tryz.f44) (rs := [.tmp 4]) Anc.refl hro (lb_ rfl) rfl
   ·exact k11_
   ·exact ys_
   ·exact k6_
   ·rfl
   ·exact k65_
   ·exact zx_
   ·rw [eqL_false hne]; exact fun β => rfl
   ·exact k65_
  ·have hq : xs.getD j 0 = ys.getD j 0 := hif
   refine At.next (j + 1) ?_ ?_ ?_ rfl ?_ ?_ rfl
   ·refine ⟨⟨by omega, fun q hq' => ?_⟩, by omega⟩; by_cases e : q = j; (rw [e]; exact hq); exact heq q (by omega)
   ·exact k5_
   ·exact k6_
   ·exact k65_
   ·exact k65_
  ·have hjn : j = xs.length := by omega
   subst hjn
   have he : xs = ys := ext_getD 0 hlen heq
   apply At.endsRet za_ (fn := Tryz.f44) (rs := [.tmp 4]) Anc.refl hro (lb_ rfl) rfl
   ·exact k11_
   ·exact ys_
   ·exact k6_
   ·rfl
   ·exact k65_
   ·exact zx_
   ·rw [eqL_true he]; exact fun β => rfl
   ·exact k65_
def sEqI64 : yt_ := fun args h m => match args with
 | [v1, v2] => match xv_ h 1 (.tup []) v1, xv_ h 1 (.tup []) v2 with
  | some (c1, n1, f1, r1), some (c2, n2, f2, r2) => some (c1 ∧ c2 ∧ (∀ q, q < n1 → isI .i64 (f1 q) = true) ∧ (∀ q, q < n2 → isI .i64 (f2 q) = true) ∧ ((ls iOf n1 f1).length ≤ 281474976710656), .bool (eqL (ls iOf n1 f1) (ls iOf n2 f2)), r1 ++ r2, [])
  | _, _ => none
 | _ => none
theorem sEqI64_ok : zh_ Tryz.prog 44 sEqI64 := by
 refine ⟨zf_ (by kernel_rfl), fun args h m c v rd wr hs hm hc w0 M β h' w R hrd hwr hst => ?_⟩
 unfold sEqI64 at hs
 split at hs
 ·rename_i v1 v2
  split at hs
  ·rename_i c1 n1 f1 r1 c2 n2 f2 r2 a1 a2
   simp only [Option.some.injEq, Prod.mk.injEq] at hs
   obtain ⟨rfl, rfl, rfl, rfl⟩ := hs
   obtain ⟨k1, k2, g1, g2, y1⟩ := hc
   obtain ⟨A1, p1, d1, e1, t1⟩ := zi_ R a1 k1 (fun i hi => hrd i (List.mem_append_left _ hi)) (by omega)
   obtain ⟨A2, p2, d2, e2, t2⟩ := zi_ R a2 k2 (fun i hi => hrd i (List.mem_append_right _ hi)) (by omega)
   refine ym_ (views := [⟨1, (ls iOf n1 f1).length, i64S (ls iOf n1 f1), A1, p1⟩, ⟨1, (ls iOf n2 f2).length, i64S (ls iOf n2 f2), A2, p2⟩]) (eqI64_lit (ls iOf n1 f1) (ls iOf n2 f2) p1 p2 y1) ?_ R hm hwr ?_ ?_ ?_
   ·exact d26_
   ·exact d30_
   ·exact k65_
   ·exact k65_
  ·cases hs
 ·cases hs
end Go.Proofs.YtjliakjbdcplcaaGreat.Vm
end
section
open Go.Proofs.YtjliakjbdcplcaaGreat.Vm Go.RowKit
attribute [local push_cast] prS zm_ i64S xm_ y4_ y3_ y2_ y1_ y0_ xl_ yz_ yy_ yx_ zl_ zz_ z2_ zy_ zq_ zr_ iOf
section
namespace Go.Proofs.YtjliakjbdcplcaaGreat.Vm
open Go.RowKit
def sRunA : yt_ := fun args h m => match args with
 | [_, _, _, _, _, .nat .i64 2] => sRunG args h m
 | _ => sRunB args h m
theorem sRunA_ok : zh_ Tryz.prog 13 sRunA := by
 refine ⟨zf_ (by kernel_rfl), fun args h m c v rd wr hs hm hc w0 M β h' w R hrd hwr hst => ?_⟩
 unfold sRunA at hs
 split at hs
 ·exact sRunG_ok.2 _ h m c v rd wr hs hm hc w0 M β h' w R hrd hwr hst
 ·exact sRunB_ok.2 _ h m c v rd wr hs hm hc w0 M β h' w R hrd hwr hst
def cAw : FuncId → Option yt_ := y6_ [(13, sRunA), (36, sNewG), (15, rGo), (18, rState), (16, rBack), (19, rUsed), (44, sEqI64)]
theorem cAw_ok : ∀ f S, cAw f = some S → zh_ Tryz.prog f S := zn_ ⟨sRunA_ok, sNewG_ok, rGo_ok, rState_ok, rBack_ok, rUsed_ok, sEqI64_ok, trivial⟩
theorem ls_one {α : Type} (g : SV → α) (f : Nat → SV) : ls g 1 f = [g (f 0)] := rfl
theorem ls_two {α : Type} (g : SV → α) (f : Nat → SV) : ls g 2 f = [g (f 0), g (f 1)] := rfl
theorem ls_three {α : Type} (g : SV → α) (f : Nat → SV) : ls g 3 f = [g (f 0), g (f 1), g (f 2)] := rfl
theorem nat_zero_int : ((0 : Nat) : Int) = 0 := rfl
theorem insOf_agg (a b c d e : SV) : zo_ (.agg [a, b, c, d, e]) = ⟨iOf a, iOf b, iOf c, iOf d, iOf e⟩ := rfl
theorem toNat2 : Int.toNat 2 = 2 := rfl
theorem awake_lit : zp_ Tryz.prog 11 [] [.gone] (.bool true) [.gone] := by
 have k1 : ∀ x ∈ ([⟨34, 0, 0, 3, 0⟩, ⟨1, 0, 0, 0, 0⟩] : List Ins), x.ok := by intro x hx; simp only [List.mem_cons, List.not_mem_nil, or_false] at hx; rcases hx with rfl | rfl <;> (refine ⟨?_, ?_, ?_, ?_, ?_, ?_, ?_, ?_, ?_, ?_⟩ <;> decide)
 have k2 : ∀ x ∈ ([⟨9, 0, 0, 0, 0⟩, ⟨1, 0, 0, 0, 0⟩] : List Ins), x.ok := by intro x hx; simp only [List.mem_cons, List.not_mem_nil, or_false] at hx; rcases hx with rfl | rfl <;> (refine ⟨?_, ?_, ?_, ?_, ?_, ?_, ?_, ?_, ?_, ?_⟩ <;> decide)
 have k3 : ∀ x ∈ ([⟨3, 4, 0, 0, 7⟩, ⟨6, 4, 3, 0, 0⟩, ⟨2, 0, 0, 0, 0⟩] : List Ins), x.ok := by intro x hx; simp only [List.mem_cons, List.not_mem_nil, or_false] at hx; rcases hx with rfl | rfl | rfl <;> (refine ⟨?_, ?_, ?_, ?_, ?_, ?_, ?_, ?_, ?_, ?_⟩ <;> decide)
 have b1 : (runO [⟨34, 0, 0, 3, 0⟩, ⟨1, 0, 0, 0, 0⟩] ⟨0, 0, 0, 1, 0⟩ (xn_ 0 0 0 [] 0) 2).bad = 0 := by kernel_rfl
 have t1 : (runO [⟨34, 0, 0, 3, 0⟩, ⟨1, 0, 0, 0, 0⟩] ⟨0, 0, 0, 1, 0⟩ (xn_ 0 0 0 [] 0) 2).tr.length = 2 := by kernel_rfl
 have a1 : (runO [⟨34, 0, 0, 3, 0⟩, ⟨1, 0, 0, 0, 0⟩] ⟨0, 0, 0, 1, 0⟩ (xn_ 0 0 0 [] 0) 2).at_ = 1 := by kernel_rfl
 have b2 : (runO [⟨34, 0, 0, 3, 0⟩, ⟨1, 0, 0, 0, 0⟩] ⟨0, 0, 0, 1, 0⟩ (xn_ 0 0 0 [] 0) 1).bad = 190 := by kernel_rfl
 have t2 : (runO [⟨34, 0, 0, 3, 0⟩, ⟨1, 0, 0, 0, 0⟩] ⟨0, 0, 0, 1, 0⟩ (xn_ 0 0 0 [] 0) 1).tr.length = 1 := by kernel_rfl
 have a2 : (runO [⟨34, 0, 0, 3, 0⟩, ⟨1, 0, 0, 0, 0⟩] ⟨0, 0, 0, 1, 0⟩ (xn_ 0 0 0 [] 0) 1).at_ = 1 := by kernel_rfl
 have n2 : (runO [⟨34, 0, 0, 3, 0⟩, ⟨1, 0, 0, 0, 0⟩] ⟨0, 0, 0, 1, 0⟩ (xn_ 0 0 0 [] 0) 1).bad ≠ 0 := by rw [b2]; decide
 have b3 : (runO [⟨34, 0, 0, 3, 0⟩, ⟨1, 0, 0, 0, 0⟩] ⟨0, 0, 0, 1, 0⟩ (xn_ 0 0 0 [] 0) 0).bad = 190 := by kernel_rfl
 have t3 : (runO [⟨34, 0, 0, 3, 0⟩, ⟨1, 0, 0, 0, 0⟩] ⟨0, 0, 0, 1, 0⟩ (xn_ 0 0 0 [] 0) 0).tr.length = 0 := by kernel_rfl
 have a3 : (runO [⟨34, 0, 0, 3, 0⟩, ⟨1, 0, 0, 0, 0⟩] ⟨0, 0, 0, 1, 0⟩ (xn_ 0 0 0 [] 0) 0).at_ = 0 := by kernel_rfl
 have n3 : (runO [⟨34, 0, 0, 3, 0⟩, ⟨1, 0, 0, 0, 0⟩] ⟨0, 0, 0, 1, 0⟩ (xn_ 0 0 0 [] 0) 0).bad ≠ 0 := by rw [b3]; decide
 have b4 : (runO [⟨9, 0, 0, 0, 0⟩, ⟨1, 0, 0, 0, 0⟩] ⟨0, 0, 0, 1, 0⟩ (xn_ 0 0 0 [] 0) 100).bad = 190 := by kernel_rfl
 have t4 : (runO [⟨9, 0, 0, 0, 0⟩, ⟨1, 0, 0, 0, 0⟩] ⟨0, 0, 0, 1, 0⟩ (xn_ 0 0 0 [] 0) 100).tr.length = 100 := by kernel_rfl
 have a4 : (runO [⟨9, 0, 0, 0, 0⟩, ⟨1, 0, 0, 0, 0⟩] ⟨0, 0, 0, 1, 0⟩ (xn_ 0 0 0 [] 0) 100).at_ = 0 := by kernel_rfl
 have n4 : (runO [⟨9, 0, 0, 0, 0⟩, ⟨1, 0, 0, 0, 0⟩] ⟨0, 0, 0, 1, 0⟩ (xn_ 0 0 0 [] 0) 100).bad ≠ 0 := by rw [b4]; decide
 have b5 : (runO [⟨3, 4, 0, 0, 7⟩, ⟨6, 4, 3, 0, 0⟩, ⟨2, 0, 0, 0, 0⟩] ⟨0, 0, 0, 1, 0⟩ (xn_ 0 0 0 [0] 0) 9).bad = 184 := by kernel_rfl
 have t5 : (runO [⟨3, 4, 0, 0, 7⟩, ⟨6, 4, 3, 0, 0⟩, ⟨2, 0, 0, 0, 0⟩] ⟨0, 0, 0, 1, 0⟩ (xn_ 0 0 0 [0] 0) 9).tr.length = 3 := by kernel_rfl
 have a5 : (runO [⟨3, 4, 0, 0, 7⟩, ⟨6, 4, 3, 0, 0⟩, ⟨2, 0, 0, 0, 0⟩] ⟨0, 0, 0, 1, 0⟩ (xn_ 0 0 0 [0] 0) 9).at_ = 2 := by kernel_rfl
 have n5 : (runO [⟨3, 4, 0, 0, 7⟩, ⟨6, 4, 3, 0, 0⟩, ⟨2, 0, 0, 0, 0⟩] ⟨0, 0, 0, 1, 0⟩ (xn_ 0 0 0 [0] 0) 9).bad ≠ 0 := by rw [b5]; decide
 have p3 : PG [⟨3, 4, 0, 0, 7⟩, ⟨6, 4, 3, 0, 0⟩, ⟨2, 0, 0, 0, 0⟩] := by exact ⟨k3, by kernel_rfl⟩
 have v3 : VOk ⟨0, 0, 0, 1, 0⟩ := by exact ⟨by decide, by decide, by decide, by decide, by decide, by decide⟩
 have s3 : SG [⟨3, 4, 0, 0, 7⟩, ⟨6, 4, 3, 0, 0⟩, ⟨2, 0, 0, 0, 0⟩] (xn_ 0 0 0 [0] 0) := by exact ⟨by decide, by decide, by decide, by decide, by decide, by decide⟩
 have e3 : yv_ [⟨3, 4, 0, 0, 7⟩, ⟨6, 4, 3, 0, 0⟩, ⟨2, 0, 0, 0, 0⟩] ⟨0, 0, 0, 1, 0⟩ (xn_ 0 0 0 [0] 0) = 0 := by kernel_rfl
 have g1 : (xp_ [⟨3, 4, 0, 0, 7⟩, ⟨6, 4, 3, 0, 0⟩, ⟨2, 0, 0, 0, 0⟩] ⟨0, 0, 0, 1, 0⟩ 2 (xn_ 0 0 0 [0] 0) Ins0 [] 0).bad = 190 := by kernel_rfl
 have g2 : (xp_ [⟨3, 4, 0, 0, 7⟩, ⟨6, 4, 3, 0, 0⟩, ⟨2, 0, 0, 0, 0⟩] ⟨0, 0, 0, 1, 0⟩ 2 (xn_ 0 0 0 [0] 0) Ins0 [] 0).tr.length = 2 := by kernel_rfl
 have g3 : (xp_ [⟨3, 4, 0, 0, 7⟩, ⟨6, 4, 3, 0, 0⟩, ⟨2, 0, 0, 0, 0⟩] ⟨0, 0, 0, 1, 0⟩ 2 (xn_ 0 0 0 [0] 0) Ins0 [] 0).s.cells = [7] := by kernel_rfl
 refine ze_ (fn := Tryz.f11) 1 186 0 rfl rfl rfl rfl rfl trivial rfl fun w0 M E hro => ?_
 repeat' (first | refine Ctl.h ?_ | ((with_reducible intro hif); first | (focus (cases hif; done)) | ((try simp only [JH] at hif); try (exfalso; omega))) | ((with_reducible first | apply J22 cAw_ok za_ | apply J23 fol cAw_ok za_ | apply J24); (·rfl); (· (simp only [push_cast, ↓JP, Nat.reduceAdd, Nat.reduceEqDiff, Nat.reduceLT, Nat.reduceMul, Nat.reduceLeDiff, reduceCtorEq, reduceIte, ↓JK, JM, JE, JB, cAw, sRunA, sRunG, sRunB, ls_one, ls_two, ls_three, insOf_agg, nat_zero_int, toNat2, inR, inN, b1, t1, a1, b2, t2, a2, b3, t3, a3, b4, t4, a4, b5, t5, a5, g1, g2, g3]; rfl)); (try kernel_rfl); (try (focus (first | exact True.intro | ((try simp only [JS, implies_true, forall_const, yd_, z9_, kndOf, iOf, insOf_agg, ls_one, ls_two, ls_three, ls_zero, nat_zero_int, Nat.zero_add, List.getD_cons_zero, List.getD_cons_succ, Int.cast_ofNat_Int, beg_fold]); (repeat' (first | exact True.intro | assumption | apply And.intro | decide | (intro q hq; first | rfl | exact hq.elim | exact k1 q hq | exact k2 q hq | exact k3 q hq | ((rcases q with _ | _ | _ | q) <;> first | rfl | (exfalso; revert hq; simp; done))))); done) | ((try simp only [JS, implies_true, forall_const, yd_, z9_, kndOf, inR, inN]); (repeat' (first | assumption | exact True.intro | omega | apply And.intro)); done))))) | fail)
 apply At.endsRet za_ (fn := Tryz.f11) (rs := [.tmp 0]) Anc.refl hro (lb_ rfl) rfl
 ·simp only [push_cast, ↓JP, Nat.reduceAdd, Nat.reduceEqDiff, Nat.reduceLT, Nat.reduceMul, Nat.reduceLeDiff, reduceCtorEq, reduceIte, ↓JK, resV, resV1, ls_one, ls_two, ls_three]; rfl
 ·exact ys_
 ·exact k6_
 ·rfl
 ·exact k159_
 ·exact zx_
 ·first | exact fun β => rfl | (intro β; kernel_rfl)
 ·exact k159_
def sAw19 : yt_ := fun args h m => match args with
 | [] => some (True, .bool true, [], [])
 | _ => none
theorem sAw19_ok : zh_ Tryz.prog 11 sAw19 := by
 refine ⟨zf_ (by kernel_rfl), fun args h m c v rd wr hs hm hc w0 M β h' w R hrd hwr hst => ?_⟩
 unfold sAw19 at hs
 split at hs
 ·skip
  simp only [Option.some.injEq, Prod.mk.injEq] at hs
  obtain ⟨rfl, rfl, rfl, rfl⟩ := hs
  refine ym_ (views := []) (awake_lit) ?_ R hm hwr ?_ ?_ ?_
  ·intro x hx; cases hx
  ·intro β1 hv
   simp only [denL, yh_, yg_, yf_, zv_, zb_]
  ·exact k159_
  ·exact k159_
 ·cases hs
end Go.Proofs.YtjliakjbdcplcaaGreat.Vm
end
section
namespace Go.Proofs.YtjliakjbdcplcaaGreat
open Go.RowKit
structure MI (w : World) (B : Nat) (x : Ins) (S : ByteArray) (p : Nat) (out : Ins) (X : World) : Prop where
 it : X.heap[B + 2]? = some (.stringIter S p)
 b8 : Blk X B 38 #[.int .u8 out.op, .int .u8 out.a, .int .u8 out.b, .int .u8 out.c, .int .i64 out.n]
 b2 : Blk X w.heap.size 194 #[.int .u8 x.op, .int .u8 x.a, .int .u8 x.b, .int .u8 x.c, .int .i64 x.n]
 b9 : Blk X (B + 1) 226 #[.pointer (some ⟨B, 1, none⟩), .pointer (some ⟨B, 2, none⟩), .pointer (some ⟨B, 3, none⟩)]
 b4 : Blk X (w.heap.size + 1) 38 #[.int .u8 0, .int .u8 0, .int .u8 0, .int .u8 0, .int .i64 0]
 below : Below w.heap.size w X
section
variable {w X : World} {B : Nat} {x out : Ins} {S : ByteArray} {p : Nat}
theorem MI.next (h : MI w B x S p out X) (hB : w.heap.size + 1 < B) (q : Nat) : MI w B x S q out (X.iterAt (B + 2) S q) :=
 have f : ∀ {g t cs}, g ≠ B + 2 → Blk X g t cs → Blk (X.iterAt (B + 2) S q) g t cs := fun hg hb => (Lib.iterAt_other X (B + 2) _ S q hg).trans hb
 ⟨Lib.iterAt_heap X (B + 2) S p q h.it, f (by omega) h.b8, f (by omega) h.b2, f (by omega) h.b9, f (by omega) h.b4, Lib.below_iterAt h.below (by omega) S q⟩
theorem MI.alloc (h : MI w B x S p out X) (o : Obj) : MI w B x S p out (X.alloc o) :=
 ⟨(Below.heap_alloc X o _ (Array.getElem?_eq_some_iff.1 h.it).1).trans h.it, h.b8.alloc o, h.b2.alloc o, h.b9.alloc o, h.b4.alloc o, h.below.alloc h.below.size o⟩
theorem MI.drew (h : MI w B x S p out X) : MI w B x S p out X.drew := ⟨h.it, h.b8, h.b2, h.b9, h.b4, h.below.drew⟩
theorem MI.set (h : MI w B x S p out X) (hB : w.heap.size + 1 < B) (i : Nat) (u : Value) (out' : Ins) (ho : (#[.int .u8 out.op, .int .u8 out.a, .int .u8 out.b, .int .u8 out.c, .int .i64 out.n] : Array Value).setIfInBounds i u = #[.int .u8 out'.op, .int .u8 out'.a, .int .u8 out'.b, .int .u8 out'.c, .int .i64 out'.n]) :
  MI w B x S p out' (X.setCell ⟨B, i, none⟩ u) :=
 ⟨(Below.heap_setCell X ⟨B, i, none⟩ u (B + 2) (by show B + 2 ≠ B; omega)).trans h.it, ho ▸ h.b8.set_ i u, h.b2.far (p := ⟨B, i, none⟩) (by show w.heap.size ≠ B; omega) u, h.b9.far (p := ⟨B, i, none⟩) (by show B + 1 ≠ B; omega) u, h.b4.far (p := ⟨B, i, none⟩) (by show w.heap.size + 1 ≠ B; omega) u, h.below.setCell (p := ⟨B, i, none⟩) (by show w.heap.size ≤ B; omega) u⟩
end
end Go.Proofs.YtjliakjbdcplcaaGreat
end
section
namespace Go.Proofs.YtjliakjbdcplcaaGreat
open Go.RowKit
theorem formC_cases (op : Int) : xo_ op = 0 ∨ xo_ op = 1 ∨ xo_ op = 2 ∨ xo_ op = 3 ∨ xo_ op = 4 ∨ xo_ op = 5 ∨ xo_ op = 6 ∨ xo_ op = 7 := by
 unfold xo_; repeat (first | (split; · simp) | simp)
theorem formS_size (k : Nat) : (y9_ k).size ≤ 100 := by
 unfold y9_; split <;> decide
end Go.Proofs.YtjliakjbdcplcaaGreat
end
section
namespace Go.Proofs.YtjliakjbdcplcaaGreat.Vm
open Go.RowKit
end Go.Proofs.YtjliakjbdcplcaaGreat.Vm
end
section
namespace Go.Proofs.YtjliakjbdcplcaaGreat.Vm
open Go.RowKit
section
variable {P : List Ins} {v : Evi}
theorem runA_le : ∀ (n : Nat) (s : Sta) (x : Ins) (tr : List Int) (a : Int), tr.length ≤ (xp_ P v n s x tr a).tr.length ∧ (xp_ P v n s x tr a).tr.length ≤ tr.length + n
 | 0, s, x, tr, a => by
  unfold xp_
  split <;> simp
 | n + 1, s, x, tr, a => by
  unfold xp_
  split
  ·simp
  ·split
   ·have := runA_le n (stepS P v s) (stepX P s x) (tr ++ [s.at_]) s.at_
    simp at this
    omega
   ·simp
theorem runA_same : ∀ (n m : Nat) (s : Sta) (x : Ins) (tr : List Int) (a : Int), (xp_ P v n s x tr a).bad ≠ 190 → xp_ P v (n + m) s x tr a = xp_ P v n s x tr a
 | 0, m, s, x, tr, a, h => by
  cases he : s.ended
  ·rw [runA_zero he] at h; exact absurd rfl h
  ·rw [runA_end he, runA_end he]
 | n + 1, m, s, x, tr, a, h => by
  cases he : s.ended
  ·by_cases hs : stepE P v s = 0
   ·rw [runA_go he (Nat.succ_pos n) hs] at h ⊢
    rw [show n + 1 + m = (n + m) + 1 by omega, runA_go he (Nat.succ_pos _) hs]
    exact runA_same n m _ _ _ _ h
   ·rw [show n + 1 + m = (n + m) + 1 by omega, runA_bad he (Nat.succ_pos _) hs, runA_bad he (Nat.succ_pos _) hs]
  ·rw [runA_end he, runA_end he]
theorem runA_fuel : ∀ (n : Nat) (s : Sta) (x : Ins) (tr : List Int) (a : Int), (xp_ P v n s x tr a).bad = 190 → (xp_ P v n s x tr a).s.ended = false ∧ (xp_ P v n s x tr a).tr.length = tr.length + n ∧ ∀ m, ∃ a', xp_ P v (n + m) s x tr a = xp_ P v m (xp_ P v n s x tr a).s (xp_ P v n s x tr a).x (xp_ P v n s x tr a).tr a'
 | 0, s, x, tr, a, h => by
  cases he : s.ended
  ·rw [runA_zero he]
   exact ⟨he, rfl, fun m => ⟨a, by rw [Nat.zero_add]⟩⟩
  ·rw [runA_end he] at h; cases h
 | n + 1, s, x, tr, a, h => by
  cases he : s.ended
  ·by_cases hs : stepE P v s = 0
   ·rw [runA_go he (Nat.succ_pos n) hs] at h ⊢
    obtain ⟨h1, h2, h3⟩ := runA_fuel n _ _ _ _ h
    refine ⟨h1, ?_, fun m => ?_⟩
    ·show (xp_ P v n (stepS P v s) (stepX P s x) (tr ++ [s.at_]) s.at_).tr.length = _
     rw [h2]; simp; omega
    ·rw [show n + 1 + m = (n + m) + 1 by omega, runA_go he (Nat.succ_pos _) hs]
     exact h3 m
   ·rw [runA_bad he (Nat.succ_pos _) hs] at h
    exact absurd h (stepE_ne190 P v s)
  ·rw [runA_end he] at h; cases h
variable {s : Sta} {F n : Int}
end
end Go.Proofs.YtjliakjbdcplcaaGreat.Vm
end
section
namespace Go.Proofs.YtjliakjbdcplcaaGreat.Vm
open Go.RowKit
section
variable {P : List Ins} {v : Evi}
theorem runA_a {n : Nat} {s : Sta} {x : Ins} {tr : List Int} {a b : Int} (h : s.ended = false) : xp_ P v n s x tr a = xp_ P v n s x tr b := by
 cases n with
 | zero => rw [runA_zero h, runA_zero h]
 | succ n =>
  by_cases hs : stepE P v s = 0
  ·rw [runA_go h (Nat.succ_pos n) hs, runA_go h (Nat.succ_pos n) hs]
  ·rw [runA_bad h (Nat.succ_pos n) hs, runA_bad h (Nat.succ_pos n) hs]
theorem runA_pre : ∀ (n : Nat) (s : Sta) (x : Ins) (tr t : List Int) (a : Int), xp_ P v n s x (tr ++ t) a = { xp_ P v n s x t a with tr := tr ++ (xp_ P v n s x t a).tr }
 | 0, s, x, tr, t, a => by
  cases he : s.ended
  ·rw [runA_zero he, runA_zero he]
  ·rw [runA_end he, runA_end he]
 | n + 1, s, x, tr, t, a => by
  cases he : s.ended
  ·by_cases hs : stepE P v s = 0
   ·rw [runA_go he (Nat.succ_pos n) hs, runA_go he (Nat.succ_pos n) hs, List.append_assoc]
    exact runA_pre n _ _ _ _ _
   ·rw [runA_bad he (Nat.succ_pos n) hs, runA_bad he (Nat.succ_pos n) hs, List.append_assoc]
  ·rw [runA_end he, runA_end he]
theorem runA_cut {n : Nat} {s : Sta} (h : (xp_ P v n s Ins0 [] 0).bad = 190) (m : Nat) : xp_ P v (n + m) s Ins0 [] 0 = { xp_ P v m (xp_ P v n s Ins0 [] 0).s (xp_ P v n s Ins0 [] 0).x [] 0 with tr := (xp_ P v n s Ins0 [] 0).tr ++ (xp_ P v m (xp_ P v n s Ins0 [] 0).s (xp_ P v n s Ins0 [] 0).x [] 0).tr } := by
 obtain ⟨h1, h2, h3⟩ := runA_fuel n s Ins0 [] 0 h
 obtain ⟨a', e⟩ := h3 m
 rw [e, runA_a (b := 0) h1]
 have := runA_pre (P := P) (v := v) m (xp_ P v n s Ins0 [] 0).s (xp_ P v n s Ins0 [] 0).x (xp_ P v n s Ins0 [] 0).tr [] 0
 rw [List.append_nil] at this
 exact this
structure Cut (P : List Ins) (v : Evi) (s0 : Sta) (F : Nat) (n : Nat) (W : RR) : Prop where
 le : n ≤ F
 run : xp_ P v n s0 Ins0 [] 0 = W
 bad : W.bad = 190
theorem Cut.start {s0 : Sta} {F : Nat} (h : s0.ended = false) : Cut P v s0 F 0 ⟨[], s0.at_, 190, s0, Ins0⟩ := ⟨Nat.zero_le _, runA_zero h, rfl⟩
theorem Cut.len {s0 : Sta} {F n : Nat} {W : RR} (h : Cut P v s0 F n W) : W.tr.length = n := by
 have := (runA_fuel (P := P) (v := v) n s0 Ins0 [] 0 (by rw [h.run]; exact h.bad)).2.1
 rw [h.run] at this
 simpa using this
theorem Cut.on {s0 : Sta} {F n m : Nat} {W Q R : RR} (h : Cut P v s0 F n W) (hm : n + m ≤ F) (hQ : xp_ P v m W.s W.x [] 0 = Q) (hb : Q.bad = 190) : Cut P v s0 F (n + m) { Q with tr := W.tr ++ Q.tr } := by
 refine ⟨hm, ?_, hb⟩
 have := runA_cut (P := P) (v := v) (n := n) (s := s0) (by rw [h.run]; exact h.bad) m
 rw [h.run, hQ] at this
 exact this
theorem Cut.all {s0 : Sta} {F : Nat} {W R : RR} (h : Cut P v s0 F F W) (hR : xp_ P v F s0 Ins0 [] 0 = R) : W = R := h.run.symm.trans hR
theorem Cut.done {s0 : Sta} {F n m : Nat} {W Q R : RR} (h : Cut P v s0 F n W) (hm : n + m ≤ F) (hQ : xp_ P v m W.s W.x [] 0 = Q) (hb : Q.bad ≠ 190) (hR : xp_ P v F s0 Ins0 [] 0 = R) : R = { Q with tr := W.tr ++ Q.tr } := by
 have := runA_cut (P := P) (v := v) (n := n) (s := s0) (by rw [h.run]; exact h.bad) (F - n)
 rw [h.run, show n + (F - n) = F by omega, hR] at this
 have h2 := runA_same (P := P) (v := v) m (F - n - m) W.s W.x [] 0 (by rw [hQ]; exact hb)
 rw [show m + (F - n - m) = F - n by omega, hQ] at h2
 rw [h2] at this
 exact this
end
end Go.Proofs.YtjliakjbdcplcaaGreat.Vm
end
section
namespace Go.Proofs.YtjliakjbdcplcaaGreat.Vm
open Go.RowKit
theorem bun_own1 {ρ : Nat → Nat} {h' : HM} {z t n : Nat} {cf : Nat → SV} (e : h' z = .own t (.arr n 1 cf) false) (hcf : ∀ q, q < n → isI .i64 (cf q) = true) : Bun1 ρ (h' z) (.own t (.arr (ls iOf n cf).length 1 (i64S (ls iOf n cf))) false) := by
 rw [zb_]
 show Less (h' z) (.own t (.arr n 1 (i64S (ls iOf n cf))) false)
 rw [e]
 refine .val (fun β => arrCl fun q hq => ?_) (fun n k f e => by injection e with e1 e2 e3; subst e1 e2; exact ⟨_, rfl⟩) (fun n k f e => by injection e with e1 e2 e3; subst e1 e2; exact ⟨_, rfl⟩)
 rw [isI_cl (hcf q hq)]
 show _ = [Value.int .i64 ((ls iOf n cf).getD q 0)]
 rw [ls_getD hq]
theorem bun_own3 {ρ : Nat → Nat} {h' : HM} {z t n : Nat} {cf : Nat → SV} (e : h' z = .own t (.arr n 3 cf) false) (hcf : ∀ q, q < n → isSnd (cf q) = true) : Bun1 ρ (h' z) (.own t (.arr (ls zw_ n cf).length 3 (zm_ (ls zw_ n cf))) false) := by
 rw [zb_]
 show Less (h' z) (.own t (.arr n 3 fun q => (zm_ (ls zw_ n cf) q).ren ρ) false)
 rw [e, sndsS_ren]
 refine .val (fun β => arrCl fun q hq => ?_) (fun n k f e => by injection e with e1 e2 e3; subst e1 e2; exact ⟨_, rfl⟩) (fun n k f e => by injection e with e1 e2 e3; subst e1 e2; exact ⟨_, rfl⟩)
 unfold zm_
 rw [ls_getD hq, isSnd_cl (hcf q hq), isSnd_cl (z2_ _), zy_]
def sSpoil : yt_ := fun args h m => match args with
 | [.sl z i [] 1 0 n none, .sl z2 j [] 3 0 n2 none] => match h i, h j with
  | .own t1 (.arr n1 1 cf) false, .own t2 (.arr m2 3 sf) false => bif (Nat.beq t1 2 && Nat.beq t2 125) && (Nat.beq z i && Nat.beq z2 j && Nat.beq n1 n && Nat.beq m2 n2) && z8_ [0, i, j] then
    some (((∀ q, q < n → isI .i64 (cf q) = true) ∧ (∀ q, q < n2 → isSnd (sf q) = true)) ∧ n ≤ 1000000 ∧ n2 ≤ 1000000, .tup [], [i, j], [(i, .gone), (j, .gone)]) else none
  | _, _ => none
 | [.sl 0 0 [] 0 0 0 (some 0), .sl 0 0 [] 0 0 0 (some 0)] => some (True, .tup [], [], [])
 | _ => none
theorem sSpoil_ok : zh_ Tryz.prog 40 sSpoil := by
 refine ⟨zf_ (by kernel_rfl), fun args h m c v rd wr hs hm hc w0 M β h' w R hrd hwr hst => ?_⟩
 unfold sSpoil at hs
 split at hs
 ·rename_i z i n z2 j n2
  split at hs
  ·rename_i t1 n1 cf t2 m2 sf hi hj
   obtain ⟨hb, hs⟩ := zj_ hs
   simp only [Option.some.injEq, Prod.mk.injEq] at hs
   obtain ⟨rfl, rfl, rfl, rfl⟩ := hs
   simp only [Bool.and_eq_true] at hb
   obtain ⟨⟨⟨b1, b2⟩, ⟨⟨⟨b3, b4⟩, b5⟩, b6⟩⟩, hnd⟩ := hb
   have b1 := Nat.eq_of_beq_eq_true b1
   have b2 := Nat.eq_of_beq_eq_true b2
   have b3 := Nat.eq_of_beq_eq_true b3
   have b4 := Nat.eq_of_beq_eq_true b4
   have b5 := Nat.eq_of_beq_eq_true b5
   have b6 := Nat.eq_of_beq_eq_true b6
   subst b1 b2 b3 b4 b5 b6
   obtain ⟨⟨hcf, hsf⟩, hn1, hn2⟩ := hc
   have ei := hrd z (by simp)
   have ej := hrd z2 (by simp)
   have H := spoil_lit (ls iOf n1 cf) (ls zw_ m2 sf) (by rw [zb_]; exact hn1) (by rw [zb_]; exact hn2)
   exact bun_ok (h := h) (m := m) [0, z, z2] H R rfl (by simp) rfl rfl hnd
    ⟨Fit.gone (by rw [R.nil0]; rfl), bun_own1 (ei.trans hi) hcf, bun_own3 (ej.trans hj) hsf, trivial⟩ hm
    (fun p hp => by cases hp) (by simp) rfl
    ⟨trivial, fun q => i64S_stable q, fun q => sndsS_stable q, trivial⟩ (by simp [zd_, Stable, hp, HB.born])
    ⟨trivial, trivial, trivial, trivial⟩ trivial (by simp only [zb_]; rfl) rfl rfl
  ·cases hs
 ·simp only [Option.some.injEq, Prod.mk.injEq] at hs
  obtain ⟨rfl, rfl, rfl, rfl⟩ := hs
  exact bun_ok (h := h) (m := m) [0] spoil_nil R rfl (by simp) rfl rfl rfl
   ⟨Fit.gone (by rw [R.nil0]; rfl), trivial⟩ hm (fun p hp => by cases hp) (by simp) rfl
   ⟨trivial, trivial⟩ (by simp [zd_, Stable, hp, HB.born]) ⟨trivial, trivial⟩ trivial rfl rfl rfl
 ·cases hs
theorem WF.thenJoin {P : Program} {w0 : World} {M : Nat → Prop} {E : Env} {n0 N n : Nat} {D : List Deferred} {φ : Fr} {L : List HB} {ro : Option Nat} {Q : Exit → Act → World → Prop} {α : Type} (p : α → Prop) (φi : α → Fr) (Li : α → List HB) {x y : Code} (hx : WF ro n P x w0 M E n0 N D φ L (Exit.then (fun a w => ∃ z, p z ∧ St w0 M E n0 N D (φi z) (Li z) a w) Q)) (hy : ∀ z, p z → WF ro n P y w0 M E n0 N D (φi z) (Li z) Q) : WF ro n P x w0 M E n0 N D φ L (Exit.then (y.wpIn (FR ro) n P Q) Q) := fun a w hS => by
 refine wpIn_mono (hx a w hS) fun e a' w' hq => ?_
 cases e <;> try exact hq
 obtain ⟨z, hz, hS'⟩ := hq
 exact hy z hz a' w' hS'
theorem WF.nilInS {P : Program} {w0 : World} {M : Nat → Prop} {E : Env} {n0 N n : Nat} {D : List Deferred} {φ : Fr} {L L2 : List HB} {c : Code} {ro : Option Nat} {Q : Exit → Act → World → Prop} (S : List Snd) (hS : S = []) (ty i t : Nat) (v v' : SV) (ex : Bool)
  (hi : hp L i = .own t v ex) (hcl : ∀ β : Env, β 0 = (none, 0) → β L.length = (none, 0) → v'.cl β = v.cl β) (hst : ∀ h : HM, (∀ j, j ≤ L.length → (h j).born = true) → Stable h v') (hbn : bornTo L.length L = true) (hn : ∀ n k f, v' ≠ .arr n k f) (hv : ∀ n k f, v ≠ .arr n k f)
  (hL2 : L2 = setH (L ++ [.own ty (.arr S.length 3 (zm_ S)) false]) i (.own t v' ex)) (h : WF ro n P c w0 M E n0 N D φ L2 Q) : WF ro n P c w0 M E n0 N D φ L Q := by
 subst hS
 exact WF.nilIn ty 3 (zm_ []) i t v v' ex (fun _ q => sndsS_stable q) hi hcl hst hbn hn hv hL2 h
theorem runA_ind {P : List Ins} {v : Evi} : ∀ (n : Nat) (s : Sta) (x x' : Ins) (tr : List Int) (a a' : Int), (xp_ P v n s x' tr a').tr = (xp_ P v n s x tr a).tr ∧ (xp_ P v n s x' tr a').bad = (xp_ P v n s x tr a).bad ∧ (xp_ P v n s x' tr a').s = (xp_ P v n s x tr a).s
 | 0, s, x, x', tr, a, a' => by
  unfold xp_
  split <;> exact ⟨rfl, rfl, rfl⟩
 | n + 1, s, x, x', tr, a, a' => by
  unfold xp_
  split
  ·exact ⟨rfl, rfl, rfl⟩
  ·split
   ·exact runA_ind n _ _ _ _ _ _
   ·exact ⟨rfl, rfl, rfl⟩
theorem runA_FG {P : List Ins} {v : Evi} (hP : PG P) (V : VOk v) : ∀ (n : Nat) (s : Sta) (x : Ins) (tr : List Int) (a : Int), FG P s → FG P (xp_ P v n s x tr a).s ∧ (xp_ P v n s x tr a).s.cells.length = s.cells.length
 | 0, s, x, tr, a, h => by
  unfold xp_
  split <;> exact ⟨h, rfl⟩
 | n + 1, s, x, tr, a, h => by
  unfold xp_
  by_cases he : s.ended = true
  ·rw [if_pos he]; exact ⟨h, rfl⟩
  ·rw [if_neg he]
   have he' : s.ended = false := by cases h : s.ended <;> simp_all
   have h1 := h.step hP V he'
   have h2 : (stepS P v s).cells.length = s.cells.length := by rw [stepS_of he']; exact doS_clen _ _ _
   split
   ·have h3 := runA_FG hP V n (stepS P v s) (stepX P s x) (tr ++ [s.at_]) s.at_ h1
    exact ⟨h3.1, h3.2.trans h2⟩
   ·exact ⟨h1, h2⟩
theorem xj_ {c : Bool} {z i k a n : Nat} {p : List Stp} {q : Option Nat} {z' i' k' a' n' : Nat} {p' : List Stp} {q' : Option Nat} : (SV.ite c (.sl z i p k a n q) (.sl z' i' p' k' a' n' q')).size = 1 := by cases c <;> rfl
theorem same_refl (s : Sta) : sameB s s = true := by simp [sameB, regsB]
structure ZG where
 j : Nat
 s : Sta
 x : Ins
 u : Nat
 w : Bool
 fc : Bool
structure GInv (P : List Ins) (cs : List Int) (K : Nat) (z : ZG) : Prop where
 hj : z.j ≤ K
 hg : FG P z.s
 hu : z.u ≤ 600 * z.j
 hc : z.fc = false → z.s.cells = cs
 hl : z.s.cells.length = cs.length
structure ZP where
 j : Nat
 l : List Ins
theorem getD_setP {l : List Ins} {k q : Nat} {y : Ins} (hk : k < l.length) : (l.set k y).getD q ⟨0, 0, 0, 0, 0⟩ = bif decide (q = k) then y else l.getD q ⟨0, 0, 0, 0, 0⟩ :=  d7_
theorem less_pset {t n : Nat} {b : Bool} {σ : Nat → Nat} {l : List Ins} {k : Nat} {y : Ins} {g : Nat → SV} (hl : l.length = n) (hk : k < n) (hg : ∀ β q, (g q).cl β = (yr_ (bif decide (q = k) then y else l.getD q ⟨0, 0, 0, 0, 0⟩)).cl β) : Less (.own t (.arr n 5 g) b) ((HB.own t (.arr n 5 (prS (l.set k y))) b).ren σ) := by
 have e : (HB.own t (.arr n 5 (prS (l.set k y))) b).ren σ = .own t (.arr n 5 (prS (l.set k y))) b := by
  simp only [HB.ren, SV.ren]; rw [prS_ren]
 rw [e]
 refine .val (fun β => arrCl fun q hq => ?_) (fun n1 k1 f1 e => by injection e with e1 e2 e3; subst e1 e2; exact ⟨_, rfl⟩) (fun n1 k1 f1 e => by injection e with e1 e2 e3; subst e1 e2; exact ⟨_, rfl⟩)
 rw [hg]
 unfold prS
 rw [getD_setP (by omega)]
theorem spoil_on (c : List Int) (hc : c.length ≤ 1000000) : zp_ Tryz.prog 40 [.sl 1 1 [] 1 0 c.length none, .sl 0 0 [] 0 0 0 (some 0)] [.gone, .own 2 (.arr c.length 1 (i64S c)) false] (.tup []) [.gone, .gone] := by
 refine ze_ (fn := Tryz.f40) 2 25 0 rfl rfl rfl rfl rfl u22_ rfl fun w0 M E hro => ?_
 repeat' (first | refine Ctl.h ?_ | ((with_reducible intro hif); first | (focus (cases hif; done)) | ((try simp only [JH] at hif); try (exfalso; omega))) | ((with_reducible first | apply J22 zs_ za_ | apply J23 fol zs_ za_ | apply J24); (·rfl); (· exact k68_); (try kernel_rfl); try exact y5_) | fail)
 refine WF.loopAt (fun (z : ZC) => z.j ≤ c.length ∧ z.l.length = c.length) (fun (z : ZC) => [(0, .sl 1 1 [] 1 0 c.length none), (1, .sl 0 0 [] 0 0 0 (some 0)), (7, .nat .i64 c.length), (8, .nat .i64 z.j)]) (fun (z : ZC) => [.gone, .own 2 (.arr c.length 1 (i64S z.l)) false]) (fun (z : ZC) => c.length - z.j) ⟨0, c⟩ ⟨Nat.zero_le _, rfl⟩ ?_ ?_ rfl ?_ ?_ rfl ?_
 ·exact k5_
 ·exact k6_
 ·exact yo_
 ·exact yo_
 rintro ⟨j, l⟩ ⟨hj, hl⟩
 dsimp only at hj hl ⊢
 by_cases hjl : j < c.length
 ·repeat' (first | refine Ctl.h ?_ | ((with_reducible intro hif); first | (focus (cases hif; done)) | ((try simp only [JH] at hif); try (exfalso; omega))) | ((with_reducible first | apply J22 zs_ za_ | apply J23 fol zs_ za_ | apply J24); (·rfl); (· exact k116_); (try kernel_rfl); try exact k25_) | fail)
  refine At.nextPick [0, 1] ⟨j + 1, l.set j (-99)⟩ ?_ rfl rfl rfl ?_ rfl ?_ ?_ ?_ rfl
  ·exact k112_
  ·exact k113_
  ·exact yo_
  ·exact k20_
  ·exact yo_
 ·obtain rfl : j = c.length := by omega
  repeat' (first | refine Ctl.h ?_ | ((with_reducible intro hif); first | (focus (cases hif; done)) | ((try simp only [JH] at hif); try (exfalso; omega))) | ((with_reducible first | apply J22 zs_ za_ | apply J23 fol zs_ za_ | apply J24); (·rfl); (· exact k117_); (try kernel_rfl); try exact y5_) | fail)
  refine WF.loopAt (fun (j : Nat) => j = 0) (fun (j : Nat) => [(16, .nat .i64 0), (17, .nat .i64 j)]) (fun (j : Nat) => [.gone, .gone]) (fun (j : Nat) => j) 0 rfl ?_ ?_ rfl ?_ ?_ rfl ?_
  ·exact k5_
  ·exact k6_
  ·exact yo_
  ·exact yo_
  rintro j rfl
  repeat' (first | refine Ctl.h ?_ | ((with_reducible intro hif); first | (focus (cases hif; done)) | ((try simp only [JH] at hif); try (exfalso; omega))) | ((with_reducible first | apply J22 zs_ za_ | apply J23 fol zs_ za_ | apply J24); (·rfl); (· exact k68_); (try kernel_rfl); try exact y5_) | fail)
  apply At.endsNormal za_ (fn := Tryz.f40) (rs := []) Anc.refl hro (lb_ rfl) rfl
  ·exact yq_
  ·exact ys_
  ·exact k6_
  ·rfl
  ·exact yo_
  ·exact zx_
  ·exact fun β => rfl
  ·exact yo_
def sSpo : yt_ := fun args h m => match args with
 | [.sl z i [] 1 0 n none, .sl 0 0 [] 0 0 0 (some 0)] => match h i with
  | .own t1 (.arr n1 1 cf) false => bif Nat.beq t1 2 && (Nat.beq z i && Nat.beq n1 n) && z8_ [0, i] then
    some ((∀ q, q < n → isI .i64 (cf q) = true) ∧ n ≤ 1000000, .tup [], [i], [(i, .gone)]) else none
  | _ => none
 | _ => sSpoil args h m
theorem sSpo_ok : zh_ Tryz.prog 40 sSpo := by
 refine ⟨zf_ (by kernel_rfl), fun args h m c v rd wr hs hm hc w0 M β h' w R hrd hwr hst => ?_⟩
 unfold sSpo at hs
 split at hs
 ·rename_i z i n
  split at hs
  ·rename_i t1 n1 cf hi
   obtain ⟨hb, hs⟩ := zj_ hs
   simp only [Option.some.injEq, Prod.mk.injEq] at hs
   obtain ⟨rfl, rfl, rfl, rfl⟩ := hs
   simp only [Bool.and_eq_true] at hb
   obtain ⟨⟨b1, b3, b5⟩, hnd⟩ := hb
   have b1 := Nat.eq_of_beq_eq_true b1
   have b3 := Nat.eq_of_beq_eq_true b3
   have b5 := Nat.eq_of_beq_eq_true b5
   subst b1 b3 b5
   obtain ⟨hcf, hn1⟩ := hc
   have ei := hrd z (by simp)
   exact bun_ok (h := h) (m := m) [0, z] (spoil_on (ls iOf n1 cf) (by rw [zb_]; exact hn1)) R rfl (by simp) rfl rfl hnd
    ⟨Fit.gone (by rw [R.nil0]; rfl), bun_own1 (ei.trans hi) hcf, trivial⟩ hm
    (fun p hp => by cases hp) (by simp) rfl
    ⟨trivial, fun q => i64S_stable q, trivial⟩ (by simp [zd_, Stable, hp, HB.born])
    ⟨trivial, trivial, trivial⟩ trivial (by simp only [zb_]; rfl) rfl rfl
  ·cases hs
 ·exact sSpoil_ok.2 _ h m c v rd wr hs hm hc w0 M β h' w R hrd hwr hst
end Go.Proofs.YtjliakjbdcplcaaGreat.Vm
end
end

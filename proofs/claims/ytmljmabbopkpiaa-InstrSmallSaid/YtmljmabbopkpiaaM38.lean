import Derived.Test.YtmljmabbopkpiaaM1
import Derived.Test.YtmljmabbopkpiaaM36
import Derived.Test.YtmljmabbopkpiaaM37
set_option linter.unusedSimpArgs false
set_option linter.unusedVariables false
set_option maxRecDepth 100000
set_option maxHeartbeats 4000000
section
namespace Go.Proofs.Ytmljmabbopkpiaa.Vm
open Go.RowKit
attribute [local push_cast] prS zm_ zo_ nav_ins xe_ xd_ xc_ xb_ xa_ nav_snd y9_ y8_ y7_ zu_ z7_ yf_ z5_ ya_ z9_ iOf sEv18 sTells18 sISm sZStep sZState sZAt sZEnded sNil nodupN memN inR inN
theorem form18_c (op : Int) (w : World) (h0 : 0 ≤ op) : Calls Try.prog 39 #[.int .u8 op] w fun e w' => e = .returned (.tuple #[.string (z1_ (y0_ op)), .bool (y0_ op != 0)]) ∧ Below w.heap.size w w' := by
 rcases Int.lt_or_le 32 op with h | h
 ·rcases Int.lt_or_le 49 op with h2 | h2
  ·exact form_hi op w h2
  ·have e : y0_ op = 1 := by unfold y0_; rw [if_pos ⟨h, h2⟩]
   rw [e]
   exact form_rrr op w h h2
 ·exact form_lo op w h0 h
def sForm18 : yp_ := fun args h m => match args with
 | [v1] => bif isI .u8 v1 then some ((0 ≤ (iOf v1)), .tup [.str (z1_ (y0_ (iOf v1))), .bool (y0_ (iOf v1) != 0)], [], []) else none
 | _ => none
theorem sForm18_ok : zj_ Try.prog 39 sForm18 := by
 refine ⟨zi_ (by kernel_rfl), fun args h m c v rd wr hs hm hc w0 M β h' w R hrd hwr hst => ?_⟩
 unfold sForm18 at hs
 split at hs
 ·rename_i v1
  obtain ⟨hb, hs⟩ := zl_ hs
  simp only [Option.some.injEq, Prod.mk.injEq] at hs
  obtain ⟨rfl, rfl, rfl, rfl⟩ := hs
  have b1 := hb
  have y1 := hc
  simp only [denL, z4_, z3_, yd_, zs_, zd_ b1]
  exact (form18_c (iOf v1) w y1).mono fun e w' he => post_read R (by (repeat' (first | exact trivial | exact rfl | assumption | apply zb_.ite | apply And.intro | intro _ | (simp only [zb_, ze_, engF, zo_, prS, yo_, zm_, sndS, stS, evS, cB, sB, sr, csl, ssl, ym_, nilS, zE, zEB, HB.stable]; done)))) rfl he.1 he.2
 ·cases hs
theorem formC_cases18 (op : Int) : (32 < op ∧ op ≤ 49 ∧ y0_ op = 1) ∨ ((op = 1 ∨ op = 2) ∧ y0_ op = 2) ∨ (op = 3 ∧ y0_ op = 3) ∨ (4 ≤ op ∧ op ≤ 7 ∧ y0_ op = 4) ∨ (op = 8 ∧ y0_ op = 5) ∨ (op = 9 ∧ y0_ op = 6) ∨ ((op = 10 ∨ op = 11) ∧ y0_ op = 7) ∨ y0_ op = 0 := by
 unfold y0_
 repeat' split
 all_goals omega
theorem fs_1_rrr : ((z1_ 1).toList == (⟨#[114, 114, 114]⟩ : ByteArray).toList) = true := by decide +kernel
theorem fs_1_rr : ((z1_ 1).toList == (⟨#[114, 114]⟩ : ByteArray).toList) = false := by decide +kernel
theorem fs_1_rrp : ((z1_ 1).toList == (⟨#[114, 114, 112]⟩ : ByteArray).toList) = false := by decide +kernel
theorem fs_1_rt : ((z1_ 1).toList == (⟨#[114, 116]⟩ : ByteArray).toList) = false := by decide +kernel
theorem fs_1_rn : ((z1_ 1).toList == (⟨#[114, 110]⟩ : ByteArray).toList) = false := by decide +kernel
theorem fs_2_rrr : ((z1_ 2).toList == (⟨#[114, 114, 114]⟩ : ByteArray).toList) = false := by decide +kernel
theorem fs_2_rr : ((z1_ 2).toList == (⟨#[114, 114]⟩ : ByteArray).toList) = false := by decide +kernel
theorem fs_2_rrp : ((z1_ 2).toList == (⟨#[114, 114, 112]⟩ : ByteArray).toList) = false := by decide +kernel
theorem fs_2_rt : ((z1_ 2).toList == (⟨#[114, 116]⟩ : ByteArray).toList) = false := by decide +kernel
theorem fs_2_rn : ((z1_ 2).toList == (⟨#[114, 110]⟩ : ByteArray).toList) = false := by decide +kernel
theorem fs_3_rrr : ((z1_ 3).toList == (⟨#[114, 114, 114]⟩ : ByteArray).toList) = false := by decide +kernel
theorem fs_3_rr : ((z1_ 3).toList == (⟨#[114, 114]⟩ : ByteArray).toList) = false := by decide +kernel
theorem fs_3_rrp : ((z1_ 3).toList == (⟨#[114, 114, 112]⟩ : ByteArray).toList) = false := by decide +kernel
theorem fs_3_rt : ((z1_ 3).toList == (⟨#[114, 116]⟩ : ByteArray).toList) = false := by decide +kernel
theorem fs_3_rn : ((z1_ 3).toList == (⟨#[114, 110]⟩ : ByteArray).toList) = true := by decide +kernel
theorem fs_4_rrr : ((z1_ 4).toList == (⟨#[114, 114, 114]⟩ : ByteArray).toList) = false := by decide +kernel
theorem fs_4_rr : ((z1_ 4).toList == (⟨#[114, 114]⟩ : ByteArray).toList) = true := by decide +kernel
theorem fs_4_rrp : ((z1_ 4).toList == (⟨#[114, 114, 112]⟩ : ByteArray).toList) = false := by decide +kernel
theorem fs_4_rt : ((z1_ 4).toList == (⟨#[114, 116]⟩ : ByteArray).toList) = false := by decide +kernel
theorem fs_4_rn : ((z1_ 4).toList == (⟨#[114, 110]⟩ : ByteArray).toList) = false := by decide +kernel
theorem fs_5_rrr : ((z1_ 5).toList == (⟨#[114, 114, 114]⟩ : ByteArray).toList) = false := by decide +kernel
theorem fs_5_rr : ((z1_ 5).toList == (⟨#[114, 114]⟩ : ByteArray).toList) = false := by decide +kernel
theorem fs_5_rrp : ((z1_ 5).toList == (⟨#[114, 114, 112]⟩ : ByteArray).toList) = true := by decide +kernel
theorem fs_5_rt : ((z1_ 5).toList == (⟨#[114, 116]⟩ : ByteArray).toList) = false := by decide +kernel
theorem fs_5_rn : ((z1_ 5).toList == (⟨#[114, 110]⟩ : ByteArray).toList) = false := by decide +kernel
theorem fs_6_rrr : ((z1_ 6).toList == (⟨#[114, 114, 114]⟩ : ByteArray).toList) = false := by decide +kernel
theorem fs_6_rr : ((z1_ 6).toList == (⟨#[114, 114]⟩ : ByteArray).toList) = false := by decide +kernel
theorem fs_6_rrp : ((z1_ 6).toList == (⟨#[114, 114, 112]⟩ : ByteArray).toList) = false := by decide +kernel
theorem fs_6_rt : ((z1_ 6).toList == (⟨#[114, 116]⟩ : ByteArray).toList) = false := by decide +kernel
theorem fs_6_rn : ((z1_ 6).toList == (⟨#[114, 110]⟩ : ByteArray).toList) = false := by decide +kernel
theorem fs_7_rrr : ((z1_ 7).toList == (⟨#[114, 114, 114]⟩ : ByteArray).toList) = false := by decide +kernel
theorem fs_7_rr : ((z1_ 7).toList == (⟨#[114, 114]⟩ : ByteArray).toList) = false := by decide +kernel
theorem fs_7_rrp : ((z1_ 7).toList == (⟨#[114, 114, 112]⟩ : ByteArray).toList) = false := by decide +kernel
theorem fs_7_rt : ((z1_ 7).toList == (⟨#[114, 116]⟩ : ByteArray).toList) = true := by decide +kernel
theorem fs_7_rn : ((z1_ 7).toList == (⟨#[114, 110]⟩ : ByteArray).toList) = false := by decide +kernel
set_option linter.defProp false in
def JF18 := And.intro @fs_1_rrr (And.intro @fs_1_rr (And.intro @fs_1_rrp (And.intro @fs_1_rt (And.intro @fs_1_rn (And.intro @fs_2_rrr (And.intro @fs_2_rr (And.intro @fs_2_rrp (And.intro @fs_2_rt (And.intro @fs_2_rn (And.intro @fs_3_rrr (And.intro @fs_3_rr (And.intro @fs_3_rrp (And.intro @fs_3_rt (And.intro @fs_3_rn (And.intro @fs_4_rrr (And.intro @fs_4_rr (And.intro @fs_4_rrp (And.intro @fs_4_rt (And.intro @fs_4_rn (And.intro @fs_5_rrr (And.intro @fs_5_rr (And.intro @fs_5_rrp (And.intro @fs_5_rt (And.intro @fs_5_rn (And.intro @fs_6_rrr (And.intro @fs_6_rr (And.intro @fs_6_rrp (And.intro @fs_6_rt (And.intro @fs_6_rn (And.intro @fs_7_rrr (And.intro @fs_7_rr (And.intro @fs_7_rrp (And.intro @fs_7_rt @fs_7_rn)))))))))))))))))))))))))))))))))
def wrdN : List Int := [-9223372036854775808, -1, 0, 1, 3, 4, 281474976710656, 9223372036854775807]
theorem wrdN_less (t : Nat) (b : Bool) : Less (.own t (.arr 8 1 (fun i => [SV.int .i64 (-9223372036854775808), SV.int .i64 (-1), SV.nat .i64 0, SV.nat .i64 1, SV.nat .i64 3, SV.nat .i64 4, SV.nat .i64 281474976710656, SV.nat .i64 9223372036854775807].getD i (.nat .i64 0))) b) (.own t (.arr 8 1 (zo_ wrdN)) b) :=
 .val (fun β => arrCl fun q hq => by rcases q with _ | _ | _ | _ | _ | _ | _ | _ | q <;> first | rfl | (exfalso; omega)) (fun n1 k1 f1 e => by injection e with e1 e2 e3; subst e1 e2; exact ⟨_, rfl⟩) (fun n1 k1 f1 e => by injection e with e1 e2 e3; subst e1 e2; exact ⟨_, rfl⟩)
theorem wrdN_R (q : Nat) : R64 (wrdN.getD q 0) := by
 rcases q with _ | _ | _ | _ | _ | _ | _ | _ | q <;> first | (constructor <;> decide) | exact zero_R
theorem all2 {α : Type} {p : α → Prop} {a b : α} (h1 : p a) (h2 : p b) : ∀ x ∈ [a, b], p x := by
 intro x hx
 simp only [List.mem_cons, List.not_mem_nil, or_false] at hx
 rcases hx with rfl | rfl
 ·exact h1
 ·exact h2
def sLim18 : yp_ := fun args h m => match args with
 | [] => some (True, .bool true, [], [])
 | _ => none
theorem sLim18_ok : zj_ Try.prog 45 sLim18 := by
 refine ⟨zi_ (by kernel_rfl), fun args h m c v rd wr hs hm hc w0 M β h' w R hrd hwr hst => ?_⟩
 unfold sLim18 at hs
 split at hs
 ·skip
  simp only [Option.some.injEq, Prod.mk.injEq] at hs
  obtain ⟨rfl, rfl, rfl, rfl⟩ := hs
  refine yl_ (views := []) (limits_lit) ?_ R hm hwr ?_ ?_ ?_
  ·intro x hx; cases hx
  ·intro β1 hv
   simp only [denL, z4_, z3_, yd_, zs_, zc_, yo_, evS, sr, csl, ssl]
  ·exact yz_
  ·exact yz_
 ·cases hs
theorem isI_ite {k : IntKind} {b : Bool} {u v : SV} (h1 : isI k u = true) (h2 : isI k v = true) : isI k (SV.ite b u v) = true := by
 rw [ite_eq]
 cases b
 ·exact h2
 ·exact h1
theorem R_ite {b : Bool} {u v : SV} (h1 : R64 (iOf u)) (h2 : R64 (iOf v)) : R64 (iOf (SV.ite b u v)) := by
 rw [ite_eq]
 cases b
 ·exact h2
 ·exact h1
theorem gd2 {p : SV → Bool} {a b z : SV} (h0 : p a = true) (h1 : p b = true) : ∀ q, q < 2 → p ([a, b].getD q z) = true := fun q hq => by
 rcases q with _ | _ | q
 ·exact h0
 ·exact h1
 ·omega
theorem gd4 {p : SV → Bool} {a b c d z : SV} (h0 : p a = true) (h1 : p b = true) (h2 : p c = true) (h3 : p d = true) : ∀ q, q < 4 → p ([a, b, c, d].getD q z) = true := fun q hq => by
 rcases q with _ | _ | _ | _ | q
 ·exact h0
 ·exact h1
 ·exact h2
 ·exact h3
 ·omega
theorem ok2 {f : Nat → SV} (h0 : (zt_ (f 0)).ok) (h1 : (zt_ (f 1)).ok) : ∀ x : Ins, x ∈ ls zt_ 2 f → x.ok := all2 h0 h1
theorem w8_bd (z : Int) : 0 ≤ IntKind.u8.wrap z ∧ IntKind.u8.wrap z ≤ 255 := by
 simp only [IntKind.wrap, IntKind.bits, IntKind.signed]
 simp
 omega
theorem two_R : R64 ((2 : Nat) : Int) := by constructor <;> decide
def engF : Nat → SV := fun i => SV.ite (decide (i = 0)) .nilp (.ptr 3 [])
theorem engF_less (t : Nat) (b : Bool) : Less (.own t (.arr 2 1 (fun i => [SV.nilp, SV.ptr 3 []].getD i .nilp)) b) (.own t (.arr 2 1 engF) b) := .arr fun q hq => by rcases q with _ | _ | q <;> first | rfl | (exfalso; omega)
def cSm : FuncId → Option yp_ := yy_ [(39, sForm18), (40, sEv18), (28, sTells18), (41, sZStep), (42, sZState), (43, sZAt), (44, sZEnded), (30, sISm), (45, sLim18), (23, sAw18)]
theorem yi_ : ∀ f S, cSm f = some S → zj_ Try.prog f S := zq_ ⟨sForm18_ok, sEv18_ok, sTells18_ok, sZStep_ok, sZState_ok, sZAt_ok, sZEnded_ok, sISm_ok, sLim18_ok, sAw18_ok, trivial⟩
theorem small18_lit : zp_ Try.prog 13 [] [.gone] (.bool true) [.gone] := by
 have hokH : Ins.ok ⟨1, 0, 0, 0, 0⟩ := by refine ⟨?_, ?_, ?_, ?_, ?_, ?_, ?_, ?_, ?_, ?_⟩ <;> decide
 have hl1 := wrdN_less 2 true
 have hR := wrdN_R
 obtain ⟨W0, hW0⟩ : ∃ W0, wrdN = W0 := ⟨_, rfl⟩
 have lW : W0.length = 8 := by rw [← hW0]; rfl
 rw [hW0] at hl1 hR
 clear hW0
 refine zf_ (fn := Try.f13) 1 146 0 rfl rfl rfl rfl rfl trivial rfl fun w0 M E hro => ?_
 repeat' (first | refine Ctl.h ?_ | ((with_reducible intro hif); first | (focus (cases hif; done)) | ((try simp only [JH] at hif); try (exfalso; omega))) | ((with_reducible first | apply J22 yi_ za_ | apply J23 fol yi_ za_ | apply J24); (·rfl); (· exact k131_); (try kernel_rfl); try exact k130_) | fail)
 refine WF.loopAt (fun (k : Nat) => k ≤ 50) (fun (k : Nat) => [(1, .sl 1 1 [] 1 0 8 none), (2, .ptr 2 []), (13, .nat .i64 k)]) (fun (k : Nat) => [.gone, .own 2 (.arr 8 1 (zo_ W0)) true, .own 56 (.agg [.nat .u64 7, .nat .i64 3, .nat .i64 3, .nat .i64 2, .nat .i64 10]) true]) (fun (k : Nat) => 50 - k) 0 (Nat.zero_le _) ?_ ?_ rfl ?_ ?_ rfl ?_
 ·exact k8_
 ·exact k5_
 ·exact yz_
 ·exact yz_
 intro k hk
 have hw8 : IntKind.u8.wrap (k : Int) = (k : Int) := by simp [IntKind.wrap, IntKind.bits, IntKind.signed]; omega
 by_cases hk2 : k < 50
 case neg =>
  obtain rfl : k = 50 := by omega
  repeat' (first | refine Ctl.h ?_ | ((with_reducible intro hif); first | (focus (cases hif; done)) | ((try simp only [JH] at hif); try (exfalso; omega))) | ((with_reducible first | apply J22 yi_ za_ | apply J23 fol yi_ za_ | apply J24); (·rfl); (· exact k131_); (try kernel_rfl); try exact k130_) | fail)
  have hl4 := engF_less 99 true
  refine WF.loopAt (fun (e : Nat) => e ≤ 2) (fun (e : Nat) => [(116, .sl 4 4 [] 1 0 2 none), (117, .nat .i64 2), (118, .nat .i64 e)]) (fun (e : Nat) => [.gone, .own 2 (.arr 8 1 (zo_ W0)) true, .own 56 (.agg [.nat .u64 7, .nat .i64 3, .nat .i64 3, .nat .i64 2, .nat .i64 10]) true, .own 102 zE true, .own 99 (.arr 2 1 engF) true]) (fun (e : Nat) => 2 - e) 0 (Nat.zero_le _) ?_ ?_ rfl ?_ ?_ rfl ?_
  ·exact k8_
  ·exact k5_
  ·exact yz_
  ·exact yz_
  intro e he
  rcases e with _ | _ | _ | e
  ·repeat' (first | refine Ctl.h ?_ | ((with_reducible intro hif); first | (focus (cases hif; done)) | ((try simp only [JH] at hif); try (exfalso; omega))) | ((with_reducible first | apply J22 yi_ za_ | apply J23 fol yi_ za_ | apply J24); (·rfl); (· exact k133_); (try kernel_rfl); try exact k132_) | fail)
   refine At.next 1 ?_ ?_ ?_ rfl ?_ ?_ rfl
   ·exact ⟨by decide, by decide⟩
   ·exact k8_
   ·exact k5_
   ·exact yz_
   ·exact yz_
  ·repeat' (first | refine Ctl.h ?_ | ((with_reducible intro hif); first | (focus (cases hif; done)) | ((try simp only [JH] at hif); try (exfalso; omega))) | ((with_reducible first | apply J22 yi_ za_ | apply J23 fol yi_ za_ | apply J24); (·rfl); (· exact k133_); (try kernel_rfl); try exact k132_) | fail)
   refine At.next 2 ?_ ?_ ?_ rfl ?_ ?_ rfl
   ·exact ⟨by decide, by decide⟩
   ·exact k8_
   ·exact k5_
   ·exact yz_
   ·exact yz_
  ·repeat' (first | refine Ctl.h ?_ | ((with_reducible intro hif); first | (focus (cases hif; done)) | ((try simp only [JH] at hif); try (exfalso; omega))) | ((with_reducible first | apply J22 yi_ za_ | apply J23 fol yi_ za_ | apply J24); (·rfl); (· (simp only [push_cast, ↓JP, Nat.reduceAdd, Nat.reduceEqDiff, Nat.reduceLT, Nat.reduceMul, Nat.reduceLeDiff, reduceCtorEq, reduceIte, ↓JK, cSm, sForm18, sLim18, JF18, List.all_cons, List.all_nil, sLim18, sAw18]; rfl)); (try kernel_rfl); try exact k132_) | fail)
   apply At.endsRet za_ (fn := Try.f13) (rs := [.tmp 0]) Anc.refl hro (lb_ rfl) rfl
   ·exact yq_
   ·exact k4_
   ·exact k5_
   ·rfl
   ·exact yz_
   ·exact k7_
   ·exact fun β => rfl
   ·exact yz_
  ·omega
 rcases formC_cases18 (k : Int) with ⟨c1, c2, hf⟩ | ⟨c1, hf⟩ | ⟨c1, hf⟩ | ⟨c1, c2, hf⟩ | ⟨c1, hf⟩ | ⟨c1, hf⟩ | ⟨c1, hf⟩ | hf
 ·repeat' (first | refine Ctl.h ?_ | ((with_reducible intro hif); first | (focus (cases hif; done)) | ((try simp only [JH] at hif); try (exfalso; omega))) | ((with_reducible first | apply J22 yi_ za_ | apply J23 fol yi_ za_ | apply J24); (·rfl); (· exact k134_); (try kernel_rfl); try exact k130_) | fail)
  refine WF.loopAt (fun (w : Nat) => w ≤ 512) (fun (w : Nat) => [(1, .sl 1 1 [] 1 0 8 none), (2, .ptr 2 []), (3, .nat .i64 k), (4, .str (z1_ 1)), (13, .nat .i64 k), (24, .nat .i64 w)]) (fun (w : Nat) => [.gone, .own 2 (.arr 8 1 (zo_ W0)) true, .own 56 (.agg [.nat .u64 7, .nat .i64 3, .nat .i64 3, .nat .i64 2, .nat .i64 10]) true]) (fun (w : Nat) => 512 - w) 0 (Nat.zero_le _) ?_ ?_ rfl ?_ ?_ rfl ?_
  ·exact k8_
  ·exact k5_
  ·exact yz_
  ·exact yz_
  intro w hw
  by_cases hw2 : w < 512
  case neg =>
   obtain rfl : w = 512 := by omega
   repeat' (first | refine Ctl.h ?_ | ((with_reducible intro hif); first | (focus (cases hif; done)) | ((try simp only [JH] at hif); try (exfalso; omega))) | ((with_reducible first | apply J22 yi_ za_ | apply J23 fol yi_ za_ | apply J24); (·rfl); (· exact k131_); (try kernel_rfl); try exact k130_) | fail)
   refine At.next (k + 1) ?_ ?_ ?_ rfl ?_ ?_ rfl
   ·exact ⟨hk2, by omega⟩
   ·exact k8_
   ·exact k5_
   ·exact yz_
   ·exact yz_
  have q1 := w8_bd ((w : Int) % 5)
  have q2 := w8_bd ((w : Int) % 8)
  have q3 := w8_bd ((w : Int) / 64)
  have q4 := w8_bd ((w : Int) % 2)
  have q5 := hR (w / 8 % 8)
  have q6 := q5.1
  have q7 := q5.2
  have hokI : Ins.ok ⟨(k : Int), IntKind.u8.wrap ((w : Int) % 5), 1, 2, 0⟩ := by
   refine ⟨?_, ?_, ?_, ?_, ?_, ?_, ?_, ?_, ?_, ?_⟩ <;> dsimp only <;> omega
  clear q1 q2 q3 q4 q5 q6 q7
  repeat' (first | refine Ctl.h ?_ | ((with_reducible intro hif); first | (focus (cases hif; done)) | ((try simp only [JH] at hif); try (exfalso; omega))) | ((with_reducible first | apply J22 yi_ za_ | apply J23 fol yi_ za_ | apply J24); (·rfl); (· exact k135_); (try kernel_rfl); try exact k132_) | fail)
  refine At.next (w + 1) ?_ ?_ ?_ rfl ?_ ?_ rfl
  ·exact ⟨hw2, by omega⟩
  ·exact k8_
  ·exact k5_
  ·exact yz_
  ·exact yz_
 ·repeat' (first | refine Ctl.h ?_ | ((with_reducible intro hif); first | (focus (cases hif; done)) | ((try simp only [JH] at hif); try (exfalso; omega))) | ((with_reducible first | apply J22 yi_ za_ | apply J23 fol yi_ za_ | apply J24); (·rfl); (· exact k134_); (try kernel_rfl); try exact k130_) | fail)
  refine WF.loopAt (fun (w : Nat) => w ≤ 512) (fun (w : Nat) => [(1, .sl 1 1 [] 1 0 8 none), (2, .ptr 2 []), (3, .nat .i64 k), (4, .str (z1_ 2)), (13, .nat .i64 k), (24, .nat .i64 w)]) (fun (w : Nat) => [.gone, .own 2 (.arr 8 1 (zo_ W0)) true, .own 56 (.agg [.nat .u64 7, .nat .i64 3, .nat .i64 3, .nat .i64 2, .nat .i64 10]) true]) (fun (w : Nat) => 512 - w) 0 (Nat.zero_le _) ?_ ?_ rfl ?_ ?_ rfl ?_
  ·exact k8_
  ·exact k5_
  ·exact yz_
  ·exact yz_
  intro w hw
  by_cases hw2 : w < 512
  case neg =>
   obtain rfl : w = 512 := by omega
   repeat' (first | refine Ctl.h ?_ | ((with_reducible intro hif); first | (focus (cases hif; done)) | ((try simp only [JH] at hif); try (exfalso; omega))) | ((with_reducible first | apply J22 yi_ za_ | apply J23 fol yi_ za_ | apply J24); (·rfl); (· exact k131_); (try kernel_rfl); try exact k130_) | fail)
   refine At.next (k + 1) ?_ ?_ ?_ rfl ?_ ?_ rfl
   ·exact ⟨hk2, by omega⟩
   ·exact k8_
   ·exact k5_
   ·exact yz_
   ·exact yz_
  have q1 := w8_bd ((w : Int) % 5)
  have q2 := w8_bd ((w : Int) % 8)
  have q3 := w8_bd ((w : Int) / 64)
  have q4 := w8_bd ((w : Int) % 2)
  have q5 := hR (w / 8 % 8)
  have q6 := q5.1
  have q7 := q5.2
  have hokI : Ins.ok ⟨(k : Int), 0, 0, 0, 0⟩ := by
   refine ⟨?_, ?_, ?_, ?_, ?_, ?_, ?_, ?_, ?_, ?_⟩ <;> dsimp only <;> omega
  clear q1 q2 q3 q4 q5 q6 q7
  repeat' (first | refine Ctl.h ?_ | ((with_reducible intro hif); first | (focus (cases hif; done)) | ((try simp only [JH] at hif); try (exfalso; omega))) | ((with_reducible first | apply J22 yi_ za_ | apply J23 fol yi_ za_ | apply J24); (·rfl); (· exact k135_); (try kernel_rfl); try exact k132_) | fail)
  refine At.next (w + 1) ?_ ?_ ?_ rfl ?_ ?_ rfl
  ·exact ⟨hw2, by omega⟩
  ·exact k8_
  ·exact k5_
  ·exact yz_
  ·exact yz_
 ·repeat' (first | refine Ctl.h ?_ | ((with_reducible intro hif); first | (focus (cases hif; done)) | ((try simp only [JH] at hif); try (exfalso; omega))) | ((with_reducible first | apply J22 yi_ za_ | apply J23 fol yi_ za_ | apply J24); (·rfl); (· exact k134_); (try kernel_rfl); try exact k130_) | fail)
  refine WF.loopAt (fun (w : Nat) => w ≤ 512) (fun (w : Nat) => [(1, .sl 1 1 [] 1 0 8 none), (2, .ptr 2 []), (3, .nat .i64 k), (4, .str (z1_ 3)), (13, .nat .i64 k), (24, .nat .i64 w)]) (fun (w : Nat) => [.gone, .own 2 (.arr 8 1 (zo_ W0)) true, .own 56 (.agg [.nat .u64 7, .nat .i64 3, .nat .i64 3, .nat .i64 2, .nat .i64 10]) true]) (fun (w : Nat) => 512 - w) 0 (Nat.zero_le _) ?_ ?_ rfl ?_ ?_ rfl ?_
  ·exact k8_
  ·exact k5_
  ·exact yz_
  ·exact yz_
  intro w hw
  by_cases hw2 : w < 512
  case neg =>
   obtain rfl : w = 512 := by omega
   repeat' (first | refine Ctl.h ?_ | ((with_reducible intro hif); first | (focus (cases hif; done)) | ((try simp only [JH] at hif); try (exfalso; omega))) | ((with_reducible first | apply J22 yi_ za_ | apply J23 fol yi_ za_ | apply J24); (·rfl); (· exact k131_); (try kernel_rfl); try exact k130_) | fail)
   refine At.next (k + 1) ?_ ?_ ?_ rfl ?_ ?_ rfl
   ·exact ⟨hk2, by omega⟩
   ·exact k8_
   ·exact k5_
   ·exact yz_
   ·exact yz_
  have q1 := w8_bd ((w : Int) % 5)
  have q2 := w8_bd ((w : Int) % 8)
  have q3 := w8_bd ((w : Int) / 64)
  have q4 := w8_bd ((w : Int) % 2)
  have q5 := hR (w / 8 % 8)
  have q6 := q5.1
  have q7 := q5.2
  have hokI : Ins.ok ⟨(k : Int), IntKind.u8.wrap ((w : Int) % 8), 0, 0, W0.getD (w / 8 % 8) 0⟩ := by
   refine ⟨?_, ?_, ?_, ?_, ?_, ?_, ?_, ?_, ?_, ?_⟩ <;> dsimp only <;> omega
  clear q1 q2 q3 q4 q5 q6 q7
  repeat' (first | refine Ctl.h ?_ | ((with_reducible intro hif); first | (focus (cases hif; done)) | ((try simp only [JH] at hif); try (exfalso; omega))) | ((with_reducible first | apply J22 yi_ za_ | apply J23 fol yi_ za_ | apply J24); (·rfl); (· exact k135_); (try kernel_rfl); try exact k132_) | fail)
  refine At.next (w + 1) ?_ ?_ ?_ rfl ?_ ?_ rfl
  ·exact ⟨hw2, by omega⟩
  ·exact k8_
  ·exact k5_
  ·exact yz_
  ·exact yz_
 ·repeat' (first | refine Ctl.h ?_ | ((with_reducible intro hif); first | (focus (cases hif; done)) | ((try simp only [JH] at hif); try (exfalso; omega))) | ((with_reducible first | apply J22 yi_ za_ | apply J23 fol yi_ za_ | apply J24); (·rfl); (· exact k134_); (try kernel_rfl); try exact k130_) | fail)
  refine WF.loopAt (fun (w : Nat) => w ≤ 512) (fun (w : Nat) => [(1, .sl 1 1 [] 1 0 8 none), (2, .ptr 2 []), (3, .nat .i64 k), (4, .str (z1_ 4)), (13, .nat .i64 k), (24, .nat .i64 w)]) (fun (w : Nat) => [.gone, .own 2 (.arr 8 1 (zo_ W0)) true, .own 56 (.agg [.nat .u64 7, .nat .i64 3, .nat .i64 3, .nat .i64 2, .nat .i64 10]) true]) (fun (w : Nat) => 512 - w) 0 (Nat.zero_le _) ?_ ?_ rfl ?_ ?_ rfl ?_
  ·exact k8_
  ·exact k5_
  ·exact yz_
  ·exact yz_
  intro w hw
  by_cases hw2 : w < 512
  case neg =>
   obtain rfl : w = 512 := by omega
   repeat' (first | refine Ctl.h ?_ | ((with_reducible intro hif); first | (focus (cases hif; done)) | ((try simp only [JH] at hif); try (exfalso; omega))) | ((with_reducible first | apply J22 yi_ za_ | apply J23 fol yi_ za_ | apply J24); (·rfl); (· exact k131_); (try kernel_rfl); try exact k130_) | fail)
   refine At.next (k + 1) ?_ ?_ ?_ rfl ?_ ?_ rfl
   ·exact ⟨hk2, by omega⟩
   ·exact k8_
   ·exact k5_
   ·exact yz_
   ·exact yz_
  have q1 := w8_bd ((w : Int) % 5)
  have q2 := w8_bd ((w : Int) % 8)
  have q3 := w8_bd ((w : Int) / 64)
  have q4 := w8_bd ((w : Int) % 2)
  have q5 := hR (w / 8 % 8)
  have q6 := q5.1
  have q7 := q5.2
  have hokI : Ins.ok ⟨(k : Int), IntKind.u8.wrap ((w : Int) / 64), IntKind.u8.wrap ((w : Int) % 2), 0, 0⟩ := by
   refine ⟨?_, ?_, ?_, ?_, ?_, ?_, ?_, ?_, ?_, ?_⟩ <;> dsimp only <;> omega
  clear q1 q2 q3 q4 q5 q6 q7
  repeat' (first | refine Ctl.h ?_ | ((with_reducible intro hif); first | (focus (cases hif; done)) | ((try simp only [JH] at hif); try (exfalso; omega))) | ((with_reducible first | apply J22 yi_ za_ | apply J23 fol yi_ za_ | apply J24); (·rfl); (· exact k135_); (try kernel_rfl); try exact k132_) | fail)
  refine At.next (w + 1) ?_ ?_ ?_ rfl ?_ ?_ rfl
  ·exact ⟨hw2, by omega⟩
  ·exact k8_
  ·exact k5_
  ·exact yz_
  ·exact yz_
 ·repeat' (first | refine Ctl.h ?_ | ((with_reducible intro hif); first | (focus (cases hif; done)) | ((try simp only [JH] at hif); try (exfalso; omega))) | ((with_reducible first | apply J22 yi_ za_ | apply J23 fol yi_ za_ | apply J24); (·rfl); (· exact k134_); (try kernel_rfl); try exact k130_) | fail)
  refine WF.loopAt (fun (w : Nat) => w ≤ 512) (fun (w : Nat) => [(1, .sl 1 1 [] 1 0 8 none), (2, .ptr 2 []), (3, .nat .i64 k), (4, .str (z1_ 5)), (13, .nat .i64 k), (24, .nat .i64 w)]) (fun (w : Nat) => [.gone, .own 2 (.arr 8 1 (zo_ W0)) true, .own 56 (.agg [.nat .u64 7, .nat .i64 3, .nat .i64 3, .nat .i64 2, .nat .i64 10]) true]) (fun (w : Nat) => 512 - w) 0 (Nat.zero_le _) ?_ ?_ rfl ?_ ?_ rfl ?_
  ·exact k8_
  ·exact k5_
  ·exact yz_
  ·exact yz_
  intro w hw
  by_cases hw2 : w < 512
  case neg =>
   obtain rfl : w = 512 := by omega
   repeat' (first | refine Ctl.h ?_ | ((with_reducible intro hif); first | (focus (cases hif; done)) | ((try simp only [JH] at hif); try (exfalso; omega))) | ((with_reducible first | apply J22 yi_ za_ | apply J23 fol yi_ za_ | apply J24); (·rfl); (· exact k131_); (try kernel_rfl); try exact k130_) | fail)
   refine At.next (k + 1) ?_ ?_ ?_ rfl ?_ ?_ rfl
   ·exact ⟨hk2, by omega⟩
   ·exact k8_
   ·exact k5_
   ·exact yz_
   ·exact yz_
  have q1 := w8_bd ((w : Int) % 5)
  have q2 := w8_bd ((w : Int) % 8)
  have q3 := w8_bd ((w : Int) / 64)
  have q4 := w8_bd ((w : Int) % 2)
  have q5 := hR (w / 8 % 8)
  have q6 := q5.1
  have q7 := q5.2
  have hokI : Ins.ok ⟨(k : Int), 0, 1, 0, ((w / 64 % 4 : Nat) : Int)⟩ := by
   refine ⟨?_, ?_, ?_, ?_, ?_, ?_, ?_, ?_, ?_, ?_⟩ <;> dsimp only <;> omega
  clear q1 q2 q3 q4 q5 q6 q7
  repeat' (first | refine Ctl.h ?_ | ((with_reducible intro hif); first | (focus (cases hif; done)) | ((try simp only [JH] at hif); try (exfalso; omega))) | ((with_reducible first | apply J22 yi_ za_ | apply J23 fol yi_ za_ | apply J24); (·rfl); (· exact k135_); (try kernel_rfl); try exact k132_) | fail)
  refine At.next (w + 1) ?_ ?_ ?_ rfl ?_ ?_ rfl
  ·exact ⟨hw2, by omega⟩
  ·exact k8_
  ·exact k5_
  ·exact yz_
  ·exact yz_
 ·repeat' (first | refine Ctl.h ?_ | ((with_reducible intro hif); first | (focus (cases hif; done)) | ((try simp only [JH] at hif); try (exfalso; omega))) | ((with_reducible first | apply J22 yi_ za_ | apply J23 fol yi_ za_ | apply J24); (·rfl); (· exact k134_); (try kernel_rfl); try exact k130_) | fail)
  refine WF.loopAt (fun (w : Nat) => w ≤ 512) (fun (w : Nat) => [(1, .sl 1 1 [] 1 0 8 none), (2, .ptr 2 []), (3, .nat .i64 k), (4, .str (z1_ 6)), (13, .nat .i64 k), (24, .nat .i64 w)]) (fun (w : Nat) => [.gone, .own 2 (.arr 8 1 (zo_ W0)) true, .own 56 (.agg [.nat .u64 7, .nat .i64 3, .nat .i64 3, .nat .i64 2, .nat .i64 10]) true]) (fun (w : Nat) => 512 - w) 0 (Nat.zero_le _) ?_ ?_ rfl ?_ ?_ rfl ?_
  ·exact k8_
  ·exact k5_
  ·exact yz_
  ·exact yz_
  intro w hw
  by_cases hw2 : w < 512
  case neg =>
   obtain rfl : w = 512 := by omega
   repeat' (first | refine Ctl.h ?_ | ((with_reducible intro hif); first | (focus (cases hif; done)) | ((try simp only [JH] at hif); try (exfalso; omega))) | ((with_reducible first | apply J22 yi_ za_ | apply J23 fol yi_ za_ | apply J24); (·rfl); (· exact k131_); (try kernel_rfl); try exact k130_) | fail)
   refine At.next (k + 1) ?_ ?_ ?_ rfl ?_ ?_ rfl
   ·exact ⟨hk2, by omega⟩
   ·exact k8_
   ·exact k5_
   ·exact yz_
   ·exact yz_
  have q1 := w8_bd ((w : Int) % 5)
  have q2 := w8_bd ((w : Int) % 8)
  have q3 := w8_bd ((w : Int) / 64)
  have q4 := w8_bd ((w : Int) % 2)
  have q5 := hR (w / 8 % 8)
  have q6 := q5.1
  have q7 := q5.2
  have hokI : Ins.ok ⟨(k : Int), 0, 0, 0, 0⟩ := by
   refine ⟨?_, ?_, ?_, ?_, ?_, ?_, ?_, ?_, ?_, ?_⟩ <;> dsimp only <;> omega
  clear q1 q2 q3 q4 q5 q6 q7
  repeat' (first | refine Ctl.h ?_ | ((with_reducible intro hif); first | (focus (cases hif; done)) | ((try simp only [JH] at hif); try (exfalso; omega))) | ((with_reducible first | apply J22 yi_ za_ | apply J23 fol yi_ za_ | apply J24); (·rfl); (· exact k135_); (try kernel_rfl); try exact k132_) | fail)
  refine At.next (w + 1) ?_ ?_ ?_ rfl ?_ ?_ rfl
  ·exact ⟨hw2, by omega⟩
  ·exact k8_
  ·exact k5_
  ·exact yz_
  ·exact yz_
 ·repeat' (first | refine Ctl.h ?_ | ((with_reducible intro hif); first | (focus (cases hif; done)) | ((try simp only [JH] at hif); try (exfalso; omega))) | ((with_reducible first | apply J22 yi_ za_ | apply J23 fol yi_ za_ | apply J24); (·rfl); (· exact k134_); (try kernel_rfl); try exact k130_) | fail)
  refine WF.loopAt (fun (w : Nat) => w ≤ 512) (fun (w : Nat) => [(1, .sl 1 1 [] 1 0 8 none), (2, .ptr 2 []), (3, .nat .i64 k), (4, .str (z1_ 7)), (13, .nat .i64 k), (24, .nat .i64 w)]) (fun (w : Nat) => [.gone, .own 2 (.arr 8 1 (zo_ W0)) true, .own 56 (.agg [.nat .u64 7, .nat .i64 3, .nat .i64 3, .nat .i64 2, .nat .i64 10]) true]) (fun (w : Nat) => 512 - w) 0 (Nat.zero_le _) ?_ ?_ rfl ?_ ?_ rfl ?_
  ·exact k8_
  ·exact k5_
  ·exact yz_
  ·exact yz_
  intro w hw
  by_cases hw2 : w < 512
  case neg =>
   obtain rfl : w = 512 := by omega
   repeat' (first | refine Ctl.h ?_ | ((with_reducible intro hif); first | (focus (cases hif; done)) | ((try simp only [JH] at hif); try (exfalso; omega))) | ((with_reducible first | apply J22 yi_ za_ | apply J23 fol yi_ za_ | apply J24); (·rfl); (· exact k131_); (try kernel_rfl); try exact k130_) | fail)
   refine At.next (k + 1) ?_ ?_ ?_ rfl ?_ ?_ rfl
   ·exact ⟨hk2, by omega⟩
   ·exact k8_
   ·exact k5_
   ·exact yz_
   ·exact yz_
  have q1 := w8_bd ((w : Int) % 5)
  have q2 := w8_bd ((w : Int) % 8)
  have q3 := w8_bd ((w : Int) / 64)
  have q4 := w8_bd ((w : Int) % 2)
  have q5 := hR (w / 8 % 8)
  have q6 := q5.1
  have q7 := q5.2
  have hokI : Ins.ok ⟨(k : Int), 0, 0, 0, ((w % 2 : Nat) : Int)⟩ := by
   refine ⟨?_, ?_, ?_, ?_, ?_, ?_, ?_, ?_, ?_, ?_⟩ <;> dsimp only <;> omega
  clear q1 q2 q3 q4 q5 q6 q7
  repeat' (first | refine Ctl.h ?_ | ((with_reducible intro hif); first | (focus (cases hif; done)) | ((try simp only [JH] at hif); try (exfalso; omega))) | ((with_reducible first | apply J22 yi_ za_ | apply J23 fol yi_ za_ | apply J24); (·rfl); (· exact k135_); (try kernel_rfl); try exact k132_) | fail)
  refine At.next (w + 1) ?_ ?_ ?_ rfl ?_ ?_ rfl
  ·exact ⟨hw2, by omega⟩
  ·exact k8_
  ·exact k5_
  ·exact yz_
  ·exact yz_
 ·repeat' (first | refine Ctl.h ?_ | ((with_reducible intro hif); first | (focus (cases hif; done)) | ((try simp only [JH] at hif); try (exfalso; omega))) | ((with_reducible first | apply J22 yi_ za_ | apply J23 fol yi_ za_ | apply J24); (·rfl); (· (simp only [push_cast, ↓JP, Nat.reduceAdd, Nat.reduceEqDiff, Nat.reduceLT, Nat.reduceMul, Nat.reduceLeDiff, reduceCtorEq, reduceIte, ↓JK, cSm, sForm18, sLim18, JF18, List.all_cons, List.all_nil, hk2, hw8, hf, bne_self_eq_false]; rfl)); (try kernel_rfl); try exact k130_) | fail)
  refine At.next (k + 1) ?_ ?_ ?_ rfl ?_ ?_ rfl
  ·exact ⟨hk2, by omega⟩
  ·exact k8_
  ·exact k5_
  ·exact yz_
  ·exact yz_
end Go.Proofs.Ytmljmabbopkpiaa.Vm
end

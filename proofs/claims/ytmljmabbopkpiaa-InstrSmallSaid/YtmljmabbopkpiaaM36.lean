import Derived.Test.YtmljmabbopkpiaaM1
import Derived.Test.YtmljmabbopkpiaaM9
import Derived.Test.YtmljmabbopkpiaaM35
set_option linter.unusedSimpArgs false
set_option linter.unusedVariables false
set_option maxRecDepth 100000
set_option maxHeartbeats 4000000
section
namespace Go.Proofs.Ytmljmabbopkpiaa.Vm
open Go.RowKit
attribute [local push_cast] prS zm_ zo_ nav_ins xe_ xd_ xc_ xb_ xa_ nav_snd y9_ y8_ y7_ zu_ z7_ yf_ z5_ ya_ z9_ iOf
def zSt : SV := .agg [.nat .i64 0, .bool false, .arr 8 1 (fun _ => .nat .i64 0), .sl 0 0 [] 0 0 0 (some 0), .nat .i64 0, .sl 0 0 [] 0 0 0 (some 0)]
def zE : SV := .agg [.nilp, .sl 0 0 [] 0 0 0 (some 0)]
def zEB : HB := .own 102 zE true
def sNil (val : SV) : yp_ := fun args h m => match args with
 | [.nilp] => some (True, val, [], [])
 | [.ptr g []] => match h g with
  | .own t (.agg [.nilp, .sl 0 0 [] 0 0 0 (some 0)]) true => bif Nat.beq t 102 && nodupN [0, g] then some (True, val, [g], [(g, zEB)]) else none
  | _ => none
 | _ => none
theorem sNil_ok {f : FuncId} {val : SV} (hf : named Try.prog f = true) (hr : ∀ ρ : Nat → Nat, ρ 0 = 0 → val.ren ρ = val) (hv : ∀ h : HM, (h 0).born = true → zb_ h val) (h1 : zp_ Try.prog f [.nilp] [.gone] val [.gone]) (h2 : zp_ Try.prog f [.ptr 1 []] [.gone, zEB] val [.gone, zEB]) : zj_ Try.prog f (sNil val) := by
 refine ⟨zi_ hf, fun args h m c v rd wr hs hm hc w0 M β h' w R hrd hwr hst => ?_⟩
 unfold sNil at hs
 split at hs
 ·simp only [Option.some.injEq, Prod.mk.injEq] at hs
  obtain ⟨rfl, rfl, rfl, rfl⟩ := hs
  exact bun_ok (h := h) (m := m) [0] h1 R rfl (by simp) rfl rfl rfl
   ⟨Fit.gone (by rw [R.nil0]; rfl), trivial⟩ hm (fun p hp => by cases hp) (by simp) rfl
   ⟨trivial, trivial⟩ (by simp [ze_, zb_]) ⟨trivial, trivial⟩ (hv _ rfl) rfl (hr _ rfl) rfl
 ·rename_i g
  split at hs
  ·rename_i t hg
   obtain ⟨hb, hs⟩ := zl_ hs
   simp only [Option.some.injEq, Prod.mk.injEq] at hs
   obtain ⟨rfl, rfl, rfl, rfl⟩ := hs
   simp only [Bool.and_eq_true] at hb
   obtain ⟨b1, hnd⟩ := hb
   have b1 := Nat.eq_of_beq_eq_true b1
   subst b1
   have eg := hrd g (by simp)
   exact bun_ok (h := h) (m := m) [0, g] h2 R rfl (by simp) rfl rfl hnd
    ⟨Fit.gone (by rw [R.nil0]; rfl), (by show Less (h' g) (.own 102 (zE.ren _) true); rw [eg, hg]; exact .same _), trivial⟩ hm (fun p hp => by cases hp) (by simp) rfl
    ⟨trivial, (by simp [HB.stable, zEB, zE, zb_, ze_, hp, HB.born]), trivial⟩ (by simp [ze_, zb_, hp, HB.born, zEB])
    ⟨trivial, (by simp [HB.stable, zEB, zE, zb_, ze_, hp, mrgL, HB.born]), trivial⟩ (hv _ rfl) rfl (hr _ rfl) rfl
  ·cases hs
 ·cases hs
def cNl0 : FuncId → Option yp_ := yy_ []
theorem cNl0_ok : ∀ f S, cNl0 f = some S → zj_ Try.prog f S := fun f S h => by cases h
theorem none1_lit : zp_ Try.prog 85 [.nilp] [.gone] (.bool true) [.gone] := by
 refine zf_ (fn := Try.f85) 1 12 0 rfl rfl rfl rfl rfl (by simp only [ze_, zb_, hp, zo_, prS, yo_, zm_, sndS, stS, evS, macS, zE, zEB, ym_, nilS, HB.stable]; simp [HB.born]) rfl fun w0 M E hro => ?_
 repeat' (first | refine Ctl.h ?_ | ((with_reducible intro hif); first | (focus (cases hif; done)) | ((try simp only [JH] at hif); try (exfalso; omega))) | ((with_reducible first | apply J22 cNl0_ok za_ | apply J23 fol cNl0_ok za_ | apply J24); (·rfl); (· (simp only [push_cast, ↓JP, Nat.reduceAdd, Nat.reduceEqDiff, Nat.reduceLT, Nat.reduceMul, Nat.reduceLeDiff, reduceCtorEq, reduceIte, ↓JK, cNl0, inR, inN]; rfl)); (try kernel_rfl); try exact k26_) | fail)
 apply At.endsRet za_ (fn := Try.f85) (rs := [.tmp 2]) Anc.refl hro (lb_ rfl) rfl
 ·exact yq_
 ·exact k4_
 ·exact k5_
 ·rfl
 ·exact k119_
 ·exact k7_
 ·exact fun β => rfl
 ·exact k119_
theorem none2_lit : zp_ Try.prog 85 [.ptr 1 []] [.gone, zEB] (.bool true) [.gone, zEB] := by
 refine zf_ (fn := Try.f85) 2 12 0 rfl rfl rfl rfl rfl u22_ rfl fun w0 M E hro => ?_
 repeat' (first | refine Ctl.h ?_ | ((with_reducible intro hif); first | (focus (cases hif; done)) | ((try simp only [JH] at hif); try (exfalso; omega))) | ((with_reducible first | apply J22 cNl0_ok za_ | apply J23 fol cNl0_ok za_ | apply J24); (·rfl); (· (simp only [push_cast, ↓JP, Nat.reduceAdd, Nat.reduceEqDiff, Nat.reduceLT, Nat.reduceMul, Nat.reduceLeDiff, reduceCtorEq, reduceIte, ↓JK, cNl0, zEB, zE, inR, inN]; rfl)); (try kernel_rfl); try exact k26_) | fail)
 apply At.endsRet za_ (fn := Try.f85) (rs := [.tmp 2]) Anc.refl hro (lb_ rfl) rfl
 ·exact yq_
 ·exact k4_
 ·exact k5_
 ·rfl
 ·exact k119_
 ·exact k7_
 ·exact fun β => rfl
 ·exact k119_
def sNone : yp_ := sNil (.bool true)
theorem sNone_ok : zj_ Try.prog 85 sNone := sNil_ok (by kernel_rfl) (fun _ _ => rfl) (fun _ _ => trivial) none1_lit none2_lit
def cNl : FuncId → Option yp_ := yy_ [(85, sNone)]
theorem cNl_ok : ∀ f S, cNl f = some S → zj_ Try.prog f S := zq_ ⟨sNone_ok, trivial⟩
theorem zStep0_lit : zp_ Try.prog 41 [.nilp] [.gone] (.nat .i64 1) [.gone] := by
 refine zf_ (fn := Try.f41) 1 14 0 rfl rfl rfl rfl rfl u22_ rfl fun w0 M E hro => ?_
 repeat' (first | refine Ctl.h ?_ | ((with_reducible intro hif); first | (focus (cases hif; done)) | ((try simp only [JH] at hif); try (exfalso; omega))) | ((with_reducible first | apply J22 cNl_ok za_ | apply J23 fol cNl_ok za_ | apply J24); (·rfl); (· exact k121_); (try kernel_rfl); try exact k26_) | fail)
 apply At.endsRet za_ (fn := Try.f41) (rs := [.tmp 2]) Anc.refl hro (lb_ rfl) rfl
 ·exact k120_
 ·exact k4_
 ·exact k5_
 ·rfl
 ·exact k119_
 ·exact k7_
 ·exact fun β => rfl
 ·exact k119_
theorem zStep1_lit : zp_ Try.prog 41 [.ptr 1 []] [.gone, zEB] (.nat .i64 1) [.gone, zEB] := by
 refine zf_ (fn := Try.f41) 2 14 0 rfl rfl rfl rfl rfl u22_ rfl fun w0 M E hro => ?_
 repeat' (first | refine Ctl.h ?_ | ((with_reducible intro hif); first | (focus (cases hif; done)) | ((try simp only [JH] at hif); try (exfalso; omega))) | ((with_reducible first | apply J22 cNl_ok za_ | apply J23 fol cNl_ok za_ | apply J24); (·rfl); (· exact k121_); (try kernel_rfl); try exact k26_) | fail)
 apply At.endsRet za_ (fn := Try.f41) (rs := [.tmp 2]) Anc.refl hro (lb_ rfl) rfl
 ·exact k120_
 ·exact k4_
 ·exact k5_
 ·rfl
 ·exact k119_
 ·exact k7_
 ·exact fun β => rfl
 ·exact k119_
def sZStep : yp_ := sNil (.nat .i64 1)
theorem sZStep_ok : zj_ Try.prog 41 sZStep := sNil_ok (by kernel_rfl) (fun _ _ => rfl) (fun _ _ => trivial) zStep0_lit zStep1_lit
theorem zAt0_lit : zp_ Try.prog 43 [.nilp] [.gone] (.nat .i64 0) [.gone] := by
 refine zf_ (fn := Try.f43) 1 13 0 rfl rfl rfl rfl rfl u22_ rfl fun w0 M E hro => ?_
 repeat' (first | refine Ctl.h ?_ | ((with_reducible intro hif); first | (focus (cases hif; done)) | ((try simp only [JH] at hif); try (exfalso; omega))) | ((with_reducible first | apply J22 cNl_ok za_ | apply J23 fol cNl_ok za_ | apply J24); (·rfl); (· exact k121_); (try kernel_rfl); try exact k26_) | fail)
 apply At.endsRet za_ (fn := Try.f43) (rs := [.tmp 2]) Anc.refl hro (lb_ rfl) rfl
 ·exact k120_
 ·exact k4_
 ·exact k5_
 ·rfl
 ·exact k119_
 ·exact k7_
 ·exact fun β => rfl
 ·exact k119_
theorem zAt1_lit : zp_ Try.prog 43 [.ptr 1 []] [.gone, zEB] (.nat .i64 0) [.gone, zEB] := by
 refine zf_ (fn := Try.f43) 2 13 0 rfl rfl rfl rfl rfl u22_ rfl fun w0 M E hro => ?_
 repeat' (first | refine Ctl.h ?_ | ((with_reducible intro hif); first | (focus (cases hif; done)) | ((try simp only [JH] at hif); try (exfalso; omega))) | ((with_reducible first | apply J22 cNl_ok za_ | apply J23 fol cNl_ok za_ | apply J24); (·rfl); (· exact k121_); (try kernel_rfl); try exact k26_) | fail)
 apply At.endsRet za_ (fn := Try.f43) (rs := [.tmp 2]) Anc.refl hro (lb_ rfl) rfl
 ·exact k120_
 ·exact k4_
 ·exact k5_
 ·rfl
 ·exact k119_
 ·exact k7_
 ·exact fun β => rfl
 ·exact k119_
def sZAt : yp_ := sNil (.nat .i64 0)
theorem sZAt_ok : zj_ Try.prog 43 sZAt := sNil_ok (by kernel_rfl) (fun _ _ => rfl) (fun _ _ => trivial) zAt0_lit zAt1_lit
theorem zEnded0_lit : zp_ Try.prog 44 [.nilp] [.gone] (.bool false) [.gone] := by
 refine zf_ (fn := Try.f44) 1 16 0 rfl rfl rfl rfl rfl u22_ rfl fun w0 M E hro => ?_
 repeat' (first | refine Ctl.h ?_ | ((with_reducible intro hif); first | (focus (cases hif; done)) | ((try simp only [JH] at hif); try (exfalso; omega))) | ((with_reducible first | apply J22 cNl_ok za_ | apply J23 fol cNl_ok za_ | apply J24); (·rfl); (· exact k121_); (try kernel_rfl); try exact k26_) | fail)
 apply At.endsRet za_ (fn := Try.f44) (rs := [.tmp 2]) Anc.refl hro (lb_ rfl) rfl
 ·exact k120_
 ·exact k4_
 ·exact k5_
 ·rfl
 ·exact k119_
 ·exact k7_
 ·exact fun β => rfl
 ·exact k119_
theorem zEnded1_lit : zp_ Try.prog 44 [.ptr 1 []] [.gone, zEB] (.bool false) [.gone, zEB] := by
 refine zf_ (fn := Try.f44) 2 16 0 rfl rfl rfl rfl rfl u22_ rfl fun w0 M E hro => ?_
 repeat' (first | refine Ctl.h ?_ | ((with_reducible intro hif); first | (focus (cases hif; done)) | ((try simp only [JH] at hif); try (exfalso; omega))) | ((with_reducible first | apply J22 cNl_ok za_ | apply J23 fol cNl_ok za_ | apply J24); (·rfl); (· exact k121_); (try kernel_rfl); try exact k26_) | fail)
 apply At.endsRet za_ (fn := Try.f44) (rs := [.tmp 2]) Anc.refl hro (lb_ rfl) rfl
 ·exact k120_
 ·exact k4_
 ·exact k5_
 ·rfl
 ·exact k119_
 ·exact k7_
 ·exact fun β => rfl
 ·exact k119_
def sZEnded : yp_ := sNil (.bool false)
theorem sZEnded_ok : zj_ Try.prog 44 sZEnded := sNil_ok (by kernel_rfl) (fun _ _ => rfl) (fun _ _ => trivial) zEnded0_lit zEnded1_lit
theorem zState0_lit : zp_ Try.prog 42 [.nilp] [.gone] zSt [.gone] := by
 refine zf_ (fn := Try.f42) 1 14 0 rfl rfl rfl rfl rfl u22_ rfl fun w0 M E hro => ?_
 repeat' (first | refine Ctl.h ?_ | ((with_reducible intro hif); first | (focus (cases hif; done)) | ((try simp only [JH] at hif); try (exfalso; omega))) | ((with_reducible first | apply J22 cNl_ok za_ | apply J23 fol cNl_ok za_ | apply J24); (·rfl); (· exact k121_); (try kernel_rfl); try exact k26_) | fail)
 apply At.endsRet za_ (fn := Try.f42) (rs := [.cell 2 53]) Anc.refl hro (lb_ rfl) rfl
 ·exact k120_
 ·exact k4_
 ·exact k5_
 ·rfl
 ·exact k119_
 ·exact k7_
 ·exact fun β => rfl
 ·exact k119_
theorem zState1_lit : zp_ Try.prog 42 [.ptr 1 []] [.gone, zEB] zSt [.gone, zEB] := by
 refine zf_ (fn := Try.f42) 2 14 0 rfl rfl rfl rfl rfl u22_ rfl fun w0 M E hro => ?_
 repeat' (first | refine Ctl.h ?_ | ((with_reducible intro hif); first | (focus (cases hif; done)) | ((try simp only [JH] at hif); try (exfalso; omega))) | ((with_reducible first | apply J22 cNl_ok za_ | apply J23 fol cNl_ok za_ | apply J24); (·rfl); (· exact k121_); (try kernel_rfl); try exact k26_) | fail)
 apply At.endsRet za_ (fn := Try.f42) (rs := [.cell 2 53]) Anc.refl hro (lb_ rfl) rfl
 ·exact k120_
 ·exact k4_
 ·exact k5_
 ·rfl
 ·exact k119_
 ·exact k7_
 ·exact fun β => rfl
 ·exact k119_
def sZState : yp_ := sNil zSt
theorem sZState_ok : zj_ Try.prog 42 sZState := sNil_ok (by kernel_rfl) (fun ρ h => by simp [zSt, SV.ren, renL, h]) (fun h hb => by simp [zSt, zb_, ze_, hb]) zState0_lit zState1_lit
end Go.Proofs.Ytmljmabbopkpiaa.Vm
end
section
namespace Go.Proofs.Ytmljmabbopkpiaa.Vm
open Go.RowKit
section
variable {P : Program} {w0 w1 w2 : World} {M M1 M2 : Nat → Prop} {E : Env} {n0 N n : Nat} {D D1 D2 : List Deferred} {φ : Fr} {L : List HB} {Q : Exit → Act → World → Prop} {ro : Option Nat}
end
end Go.Proofs.Ytmljmabbopkpiaa.Vm
end
section
namespace Go.Proofs.Ytmljmabbopkpiaa.Vm
open Go.RowKit
section
variable {P : Program} {T : Tab} {w0 : World} {M : Nat → Prop} {E : Env} {n0 N n : Nat} {D : List Deferred} {φ : Fr} {L : List HB} {Q : Exit → Act → World → Prop} {ro : Option Nat}
theorem At.conv (hT : TabOk P T) {ops : Array Oper} {k : Nat} {rest : List Nat} {o : Oper} {s t : TypeId} {x : Operand} {d : Tmp} {c : Prop} {v : SV} {k1 k2 : IntKind} {z : Int} {K : TK}
  (ho : ops[k]? = some o) (hop : o.op = .convert s t x) (hdst : o.dst = some d) (hg : o.guard = none) (hdN : Nat.blt d N = true) (hs : T.ty s = some K) (ht : T.ty t = some (.int k2)) (hx : ev φ x = some (c, v)) (hc : c) (hv : ∀ β, v.den β = .int k1 z)
  (h : At w0 M E n0 N D ((d, .int k2 (k2.wrap z)) :: φ) L (wpOpsIn (FR ro) n P ops Q rest)) : At w0 M E n0 N D φ L (wpOpsIn (FR ro) n P ops Q (k :: rest)) := fun a w hS => by
 obtain ⟨⟨β, hE, R, F⟩, hbn, hsz, hdf⟩ := id hS
 have h2 := (ev_spec F R.nil R.nil0 hx hc).2
 obtain ⟨i1, d1, _, _, hd1, _⟩ := hT.ty s _ hs
 obtain ⟨i2, d2, _, _, hd2, hf2⟩ := hT.ty t _ ht
 have hf2 : d2 = .int k2 := hf2
 subst hf2
 have hrun : (execOp a.eval o).run P w = .ok (.value (.int k2 (k2.wrap z))) w := by
  obtain ⟨dst, op, ty, pos, after, gd⟩ := o
  simp only at hop
  subst hop
  have : (convert s t (.int k1 z)).run P w = .ok (.int k2 (k2.wrap z)) w := by
   simp [convert, run_underlying hd1, run_underlying hd2, Conv.intToInt]
  simp [execOp, h2, hv, this]
 have hw : Region.wanted o (yielded ops a.tmps) = true := by
  obtain ⟨dst, op, ty, pos, after, gd⟩ := o
  simp only at hg
  subst hg
  rfl
 simp only [wpOpsIn, ho, hw, if_true]
 refine ⟨fun _ _ => trivial, ?_⟩
 have hsm := Oper.semAt_eq (FR ro).round a.eval o (fun c e => by rw [hop] at e; cases e)
 rw [hsm, hrun, Oper.uponIn_value]
 refine h _ _ ⟨⟨β, hE, R, fun u y hu => ?_⟩, hbn, by rw [put_size]; exact hsz, by rw [put_defers]; exact hdf⟩
 rw [put_get hsz (fun t' e => by rw [hdst] at e; injection e with e; subst e; exact Nat.le_of_ble_eq_true hdN), hdst]
 simp only [look] at hu
 cases hq : Nat.beq d u with
 | true =>
  rw [hq] at hu
  have := Nat.eq_of_beq_eq_true hq
  subst this
  injection hu with hu
  subst hu
  exact ⟨trivial, by simp [SV.den]⟩
 | false =>
  rw [hq] at hu
  have hne : d ≠ u := fun e => by rw [e] at hq; simp at hq
  obtain ⟨k1, k2⟩ := F u y hu
  exact ⟨k1, by rw [if_neg (by simp [hne]), k2]⟩
end
end Go.Proofs.Ytmljmabbopkpiaa.Vm
end

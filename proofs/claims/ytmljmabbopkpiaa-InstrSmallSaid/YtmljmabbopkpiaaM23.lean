import Derived.Test.YtmljmabbopkpiaaM1
import Derived.Test.YtmljmabbopkpiaaM9
import Derived.Test.YtmljmabbopkpiaaM13
import Derived.Test.YtmljmabbopkpiaaM16
import Derived.Test.YtmljmabbopkpiaaM20
set_option linter.unusedSimpArgs false
set_option linter.unusedVariables false
set_option maxRecDepth 100000
set_option maxHeartbeats 4000000
section
namespace Go.Proofs.Ytmljmabbopkpiaa.Vm
open Go.RowKit
attribute [local push_cast] prS zm_ zo_ nav_ins xe_ xd_ xc_ xb_ xa_ nav_snd y9_ y8_ y7_ zu_ z7_ yf_ z5_ ya_ z9_ iOf
theorem ls_i64S2 (l : List Int) : ls iOf l.length (fun q => .int .i64 (l.getD q 0)) = l := xj_ l
theorem ls_sndsS2 (l : List Snd) : ls zn_ l.length (fun q => sndS (l.getD q ⟨0, 0, 0⟩)) = l := ls_sndsS l
theorem ls_prS2 (l : List Ins) : ls zt_ l.length (fun q => yo_ (l.getD q ⟨0, 0, 0, 0, 0⟩)) = l := ls_prS l
def cM0 : FuncId → Option yp_ := yy_ []
theorem cM0_ok : ∀ f S, cM0 f = some S → zj_ Try.prog f S := fun f S h => by cases h
def aF : RF := fun s v x => some (0 ≤ x.a ∧ x.a < 8, .int .i64 (s.regs x.a.toNat))
def bF : RF := fun s v x => some (0 ≤ x.b ∧ x.b < 8, .int .i64 (s.regs x.b.toNat))
def cF : RF := fun s v x => some (0 ≤ x.c ∧ x.c < 8, .int .i64 (s.regs x.c.toNat))
theorem a_ok : zj_ Try.prog 169 (rS aF) := rS_ok (by kernel_rfl) fun s v x cond val hF hc => by
 cases hF
 obtain ⟨h0, h8⟩ := hc
 have hn : x.a.toNat < 8 := by omega
 refine ⟨fun _ => rfl, fun _ => trivial, ?_⟩
 refine zf_ (fn := Try.f169) 4 14 0 rfl rfl rfl rfl rfl u7_ rfl fun w0 M E hro => ?_
 repeat' (first | refine Ctl.h ?_ | ((with_reducible intro hif); first | (focus (cases hif; done)) | ((try simp only [JH] at hif); try (exfalso; omega))) | ((with_reducible first | apply J22 cM0_ok za_ | apply J23 fol cM0_ok za_ | apply J24); (·rfl); (· exact k70_); (try kernel_rfl); try exact k69_) | fail)
 apply At.endsRet za_ (fn := Try.f169) (rs := [.tmp 2]) Anc.refl hro (lb_ rfl) rfl
 ·exact yq_
 ·exact k4_
 ·exact k5_
 ·rfl
 ·exact yv_
 ·exact k7_
 ·exact fun β => rfl
 ·exact yv_
theorem b_ok : zj_ Try.prog 167 (rS bF) := rS_ok (by kernel_rfl) fun s v x cond val hF hc => by
 cases hF
 obtain ⟨h0, h8⟩ := hc
 have hn : x.b.toNat < 8 := by omega
 refine ⟨fun _ => rfl, fun _ => trivial, ?_⟩
 refine zf_ (fn := Try.f167) 4 14 0 rfl rfl rfl rfl rfl u7_ rfl fun w0 M E hro => ?_
 repeat' (first | refine Ctl.h ?_ | ((with_reducible intro hif); first | (focus (cases hif; done)) | ((try simp only [JH] at hif); try (exfalso; omega))) | ((with_reducible first | apply J22 cM0_ok za_ | apply J23 fol cM0_ok za_ | apply J24); (·rfl); (· exact k70_); (try kernel_rfl); try exact k69_) | fail)
 apply At.endsRet za_ (fn := Try.f167) (rs := [.tmp 2]) Anc.refl hro (lb_ rfl) rfl
 ·exact yq_
 ·exact k4_
 ·exact k5_
 ·rfl
 ·exact yv_
 ·exact k7_
 ·exact fun β => rfl
 ·exact yv_
theorem c_ok : zj_ Try.prog 171 (rS cF) := rS_ok (by kernel_rfl) fun s v x cond val hF hc => by
 cases hF
 obtain ⟨h0, h8⟩ := hc
 have hn : x.c.toNat < 8 := by omega
 refine ⟨fun _ => rfl, fun _ => trivial, ?_⟩
 refine zf_ (fn := Try.f171) 4 14 0 rfl rfl rfl rfl rfl u7_ rfl fun w0 M E hro => ?_
 repeat' (first | refine Ctl.h ?_ | ((with_reducible intro hif); first | (focus (cases hif; done)) | ((try simp only [JH] at hif); try (exfalso; omega))) | ((with_reducible first | apply J22 cM0_ok za_ | apply J23 fol cM0_ok za_ | apply J24); (·rfl); (· exact k70_); (try kernel_rfl); try exact k69_) | fail)
 apply At.endsRet za_ (fn := Try.f171) (rs := [.tmp 2]) Anc.refl hro (lb_ rfl) rfl
 ·exact yq_
 ·exact k4_
 ·exact k5_
 ·rfl
 ·exact yv_
 ·exact k7_
 ·exact fun β => rfl
 ·exact yv_
def putF : MF := fun ar s v x => match ar with
 | [.int .i64 n] => some (0 ≤ x.a ∧ x.a < 8 ∧ 0 ≤ s.at_ ∧ s.at_ ≤ 256, fun _ => .int .i64 0, s.put x.a.toNat n, x, false)
 | _ => none
theorem put_ok : zj_ Try.prog 166 (mS putF) := mS_ok (by kernel_rfl) fun ar s v x cond val s' x' mv hF hc => by
 unfold putF at hF
 split at hF
 ·cases hF
  obtain ⟨h0, h8, a0, a1⟩ := hc
  have hn : x.a.toNat < 8 := by omega
  refine ⟨fun _ => rfl, fun _ => ⟨trivial, trivial⟩, fun _ _ => rfl, fun _ _ _ => trivial, ?_⟩
  refine zf_ (fn := Try.f166) 4 25 0 rfl rfl rfl rfl rfl u7_ rfl fun w0 M E hro => ?_
  repeat' (first | refine Ctl.h ?_ | ((with_reducible intro hif); first | (focus (cases hif; done)) | ((try simp only [JH] at hif); try (exfalso; omega))) | ((with_reducible first | apply J22 cM0_ok za_ | apply J23 fol cM0_ok za_ | apply J24); (·rfl); (· exact k71_); (try kernel_rfl); try exact k26_) | fail)
  apply At.endsRet za_ (fn := Try.f166) (rs := [.tmp 4]) Anc.refl hro (lb_ rfl) rfl
  ·exact yq_
  ·exact k4_
  ·exact k5_
  ·rfl
  ·exact yv_
  ·exact k7_
  ·exact fun β => rfl
  ·exact yv_
 ·cases hF
def jumpIfF : MF := fun ar s v x => match ar with
 | [.bool is] => some (0 ≤ s.at_ ∧ s.at_ ≤ 256 ∧ 0 ≤ x.n ∧ x.n < 256, fun _ => .int .i64 0, { s with at_ := if is = true then x.n else s.at_ + 1 }, x, false)
 | _ => none
theorem jumpIf_ok : zj_ Try.prog 170 (mS jumpIfF) := mS_ok (by kernel_rfl) fun ar s v x cond val s' x' mv hF hc => by
 unfold jumpIfF at hF
 split at hF
 ·rename_i is
  cases hF
  obtain ⟨a0, a1, n0, n1⟩ := hc
  refine ⟨fun _ => rfl, fun _ => ⟨trivial, trivial⟩, fun _ _ => rfl, fun _ _ _ => trivial, ?_⟩
  cases is
  ·exact d35_
  ·exact d35_
 ·cases hF
end Go.Proofs.Ytmljmabbopkpiaa.Vm
end

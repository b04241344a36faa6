import Derived.Test.YtjliakjbdcplcaaGreatR1
import Derived.Test.YtjliakjbdcplcaaGreatR10
import Derived.Test.YtjliakjbdcplcaaGreatR11
import Derived.Test.YtjliakjbdcplcaaGreatR19
set_option linter.unusedSimpArgs false
set_option linter.unusedVariables false
set_option maxRecDepth 100000
set_option maxHeartbeats 4000000
section
namespace Go.Proofs.YtjliakjbdcplcaaGreat.Vm
open Go.RowKit
attribute [local push_cast] prS zm_ i64S xm_ y4_ y3_ y2_ y1_ y0_ xl_ yz_ yy_ yx_ zl_ zz_ z2_ zy_ zq_ zr_ iOf
theorem ls_i64S2 (l : List Int) : ls iOf l.length (fun q => .int .i64 (l.getD q 0)) = l := xi_ l
theorem ls_sndsS2 (l : List Snd) : ls zw_ l.length (fun q => sndS (l.getD q ⟨0, 0, 0⟩)) = l := ls_sndsS l
theorem ls_prS2 (l : List Ins) : ls zo_ l.length (fun q => yr_ (l.getD q ⟨0, 0, 0, 0, 0⟩)) = l := ls_prS l
def cM0 : FuncId → Option yt_ := y6_ []
theorem cM0_ok : ∀ f S, cM0 f = some S → zh_ Tryz.prog f S := fun f S h => by cases h
def aF : RF := fun s v x => some (0 ≤ x.a ∧ x.a < 8, .int .i64 (s.regs x.a.toNat))
def bF : RF := fun s v x => some (0 ≤ x.b ∧ x.b < 8, .int .i64 (s.regs x.b.toNat))
def cF : RF := fun s v x => some (0 ≤ x.c ∧ x.c < 8, .int .i64 (s.regs x.c.toNat))
theorem a_ok : zh_ Tryz.prog 177 (rS aF) := rS_ok (by kernel_rfl) fun s v x cond val hF hc => by
 cases hF
 obtain ⟨h0, h8⟩ := hc
 have hn : x.a.toNat < 8 := by omega
 refine ⟨fun _ => rfl, fun _ => trivial, ?_⟩
 refine ze_ (fn := Tryz.f177) 4 14 0 rfl rfl rfl rfl rfl u11_ rfl fun w0 M E hro => ?_
 repeat' (first | refine Ctl.h ?_ | ((with_reducible intro hif); first | (focus (cases hif; done)) | ((try simp only [JH] at hif); try (exfalso; omega))) | ((with_reducible first | apply J22 cM0_ok za_ | apply J23 fol cM0_ok za_ | apply J24); (·rfl); (· exact k80_); (try kernel_rfl); try exact k79_) | fail)
 apply At.endsRet za_ (fn := Tryz.f177) (rs := [.tmp 2]) Anc.refl hro (lb_ rfl) rfl
 ·exact yq_
 ·exact ys_
 ·exact k6_
 ·rfl
 ·exact y8_
 ·exact zx_
 ·exact fun β => rfl
 ·exact y8_
theorem b_ok : zh_ Tryz.prog 175 (rS bF) := rS_ok (by kernel_rfl) fun s v x cond val hF hc => by
 cases hF
 obtain ⟨h0, h8⟩ := hc
 have hn : x.b.toNat < 8 := by omega
 refine ⟨fun _ => rfl, fun _ => trivial, ?_⟩
 refine ze_ (fn := Tryz.f175) 4 14 0 rfl rfl rfl rfl rfl u11_ rfl fun w0 M E hro => ?_
 repeat' (first | refine Ctl.h ?_ | ((with_reducible intro hif); first | (focus (cases hif; done)) | ((try simp only [JH] at hif); try (exfalso; omega))) | ((with_reducible first | apply J22 cM0_ok za_ | apply J23 fol cM0_ok za_ | apply J24); (·rfl); (· exact k80_); (try kernel_rfl); try exact k79_) | fail)
 apply At.endsRet za_ (fn := Tryz.f175) (rs := [.tmp 2]) Anc.refl hro (lb_ rfl) rfl
 ·exact yq_
 ·exact ys_
 ·exact k6_
 ·rfl
 ·exact y8_
 ·exact zx_
 ·exact fun β => rfl
 ·exact y8_
theorem c_ok : zh_ Tryz.prog 181 (rS cF) := rS_ok (by kernel_rfl) fun s v x cond val hF hc => by
 cases hF
 obtain ⟨h0, h8⟩ := hc
 have hn : x.c.toNat < 8 := by omega
 refine ⟨fun _ => rfl, fun _ => trivial, ?_⟩
 refine ze_ (fn := Tryz.f181) 4 14 0 rfl rfl rfl rfl rfl u11_ rfl fun w0 M E hro => ?_
 repeat' (first | refine Ctl.h ?_ | ((with_reducible intro hif); first | (focus (cases hif; done)) | ((try simp only [JH] at hif); try (exfalso; omega))) | ((with_reducible first | apply J22 cM0_ok za_ | apply J23 fol cM0_ok za_ | apply J24); (·rfl); (· exact k80_); (try kernel_rfl); try exact k79_) | fail)
 apply At.endsRet za_ (fn := Tryz.f181) (rs := [.tmp 2]) Anc.refl hro (lb_ rfl) rfl
 ·exact yq_
 ·exact ys_
 ·exact k6_
 ·rfl
 ·exact y8_
 ·exact zx_
 ·exact fun β => rfl
 ·exact y8_
def putF : MF := fun ar s v x => match ar with
 | [.int .i64 n] => some (0 ≤ x.a ∧ x.a < 8 ∧ 0 ≤ s.at_ ∧ s.at_ ≤ 256, fun _ => .int .i64 0, s.put x.a.toNat n, x, false)
 | _ => none
theorem put_ok : zh_ Tryz.prog 174 (mS putF) := mS_ok (by kernel_rfl) fun ar s v x cond val s' x' mv hF hc => by
 unfold putF at hF
 split at hF
 ·cases hF
  obtain ⟨h0, h8, a0, a1⟩ := hc
  have hn : x.a.toNat < 8 := by omega
  refine ⟨fun _ => rfl, fun _ => ⟨trivial, trivial⟩, fun _ _ => rfl, fun _ _ _ => trivial, ?_⟩
  refine ze_ (fn := Tryz.f174) 4 25 0 rfl rfl rfl rfl rfl u11_ rfl fun w0 M E hro => ?_
  repeat' (first | refine Ctl.h ?_ | ((with_reducible intro hif); first | (focus (cases hif; done)) | ((try simp only [JH] at hif); try (exfalso; omega))) | ((with_reducible first | apply J22 cM0_ok za_ | apply J23 fol cM0_ok za_ | apply J24); (·rfl); (· exact k81_); (try kernel_rfl); try exact k25_) | fail)
  apply At.endsRet za_ (fn := Tryz.f174) (rs := [.tmp 4]) Anc.refl hro (lb_ rfl) rfl
  ·exact yq_
  ·exact ys_
  ·exact k6_
  ·rfl
  ·exact y8_
  ·exact zx_
  ·exact fun β => rfl
  ·exact y8_
 ·cases hF
def jumpIfF : MF := fun ar s v x => match ar with
 | [.bool is] => some (0 ≤ s.at_ ∧ s.at_ ≤ 256 ∧ 0 ≤ x.n ∧ x.n < 256, fun _ => .int .i64 0, { s with at_ := if is = true then x.n else s.at_ + 1 }, x, false)
 | _ => none
theorem jumpIf_ok : zh_ Tryz.prog 179 (mS jumpIfF) := mS_ok (by kernel_rfl) fun ar s v x cond val s' x' mv hF hc => by
 unfold jumpIfF at hF
 split at hF
 ·rename_i is
  cases hF
  obtain ⟨a0, a1, n0, n1⟩ := hc
  refine ⟨fun _ => rfl, fun _ => ⟨trivial, trivial⟩, fun _ _ => rfl, fun _ _ _ => trivial, ?_⟩
  cases is
  ·exact d39_
  ·exact d39_
 ·cases hF
end Go.Proofs.YtjliakjbdcplcaaGreat.Vm
end

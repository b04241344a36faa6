import Derived.WalkKit
import Derived.WalkSpells
import Derived.WalkLawsBesides
import Derived.Lib.Hide
import Derived.Deep.QuietTactic
import Derived.BigQuiet
import Derived.Deep.Draws
import Derived.Deep.AppendLies
import Derived.Maps.AppendAt
import Derived.Test.YtjliakjbdcplcaaRows
import Derived.ProofKit
import Derived.OpenShut
import Derived.WideKeyArgs
section
namespace Go.Proofs.Ytjliakjbdcplcaa.Vm
theorem d4_ {P : Prop} (h:P:=by
 rename_i y hy
 split at hs
 ·rename_i y' hy'
  injection hs with hs;subst hs
  simp only[Stable]
  refine yj_.2 fun z hz=>?_
  rcases mem_set_of hz with rfl|hz
  ·exact Stable.of_setp (yj_.1 hv y (List.mem_of_getElem? hy)) hx hy'
  ·exact yj_.1 hv z hz
 ·cases hs):P:=h
theorem d6_ {P : Prop} (h:P:=by
 split at h
 ·split at h
  ·injection h with h;subst h;exact⟨fun n k f h=>(by cases h),rfl⟩
  ·cases h
 ·cases h):P:=h
theorem d7_ {P : Prop} (h:P:=by
 rename_i c' u he
 simp only[Option.some.injEq,Prod.mk.injEq]at ho
 obtain⟨rfl,rfl,rfl⟩:=ho
 obtain⟨h1,h2⟩:=X.ev he hc
 exact⟨h1,by simp[execOp,h2]⟩):P:=h
theorem d8_ {P : Prop} (h:P:=by
 have e1:(wrs h' [(m,HB.gone)] m).born=true:=by show (upd h' m _ m).born=true;rw[zs_];rfl
 have e2:(wrs h' [(m,HB.gone)] i).born=true:=by show (upd h' m _ i).born=true;rw[yb_ him];exact h1.2
 exact⟨e1,e2⟩):P:=h
theorem d9_ {P : Prop} (h:P:=by
 obtain⟨B,hB2⟩:∃B,a.eval x=.slice B 0 (max 0 (cp.getD (β z).2)):=⟨_,by rw[h2];rfl⟩
 rw[hy4]at hfirst
 have hz:zx_ β k 0 g=[]:=rfl
 rw[hz]at hfirst
 cases B with
 | none=>simp[execOp,resolve,invoke,builtin,hB2,hy4,Builtin.copy_,run_underlying hdd,Builtin.lenOf,run_size hie,hes,hfirst,goInt,hmin]
 | some ad=>simp[execOp,resolve,invoke,builtin,hB2,hy4,Builtin.copy_,run_underlying hdd,Builtin.lenOf,run_size hie,hes,hfirst,goInt,hmin,storeCells]):P:=h
theorem d10_ {P : Prop} (h:P:=by
 rw[look_push,hd1]at hv
 rw[hpe,put_get hsz hd2]
 by_cases h:o.dst=some t
 ·simp only[h,if_true,Option.some.injEq]at hv ⊢
  subst hv
  exact⟨k4,k5⟩
 ·simp only[h,if_false]at hv ⊢
  obtain⟨h1,h2⟩:=F t v hv
  exact⟨h1.more k2,by rw[h2];exact h1.den k1⟩):P:=h
theorem d11_ {P : Prop} (h:P:=by
 simp only[h,if_true,Option.some.injEq]at hv ⊢
 subst hv
 exact⟨k4,k5⟩):P:=h
theorem d12_ {P : Prop} (h:P:=by
 simp only[h,if_false]at hv ⊢
 obtain⟨h1,h2⟩:=F t v hv
 exact⟨h1.more k2,by rw[h2];exact h1.den k1⟩):P:=h
theorem d13_ {P : Prop} (h:P:=by
 obtain⟨k1,k2,k3,k4⟩:=k1 r hr
 refine⟨k1,fun⟨i,a',hm,ha,e⟩=>?_,(R.frame r k2 k3).trans k4⟩
 rcases R.own i a' hm ha with h'|h'
 ·omega
 ·exact k3 (by rw[←e];exact h')):P:=h
theorem d14_ {P : Prop} (h:P:=by
 have hlt:i < L1.length:=by
  rcases Nat.lt_or_ge i L1.length with h'|h'
  ·exact h'
  ·rw[xc_ h']at hb;cases hb
 rw[hrn i hi,hm _ (by omega) (by omega)]
 rfl):P:=h
theorem d15_ {P : Prop} (h:P:=by
 simp only[idTo,List.all_eq_true]at hid
 have e:=Nat.eq_of_beq_eq_true (hid i (List.mem_range.2 hi))
 show β (l.getD i 0)=E i
 rw[e];exact hE i hi):P:=h
theorem d16_ {P : Prop} (h:P:=by
 refine zm_ (fn:=Try.f138) 4 24 0 rfl rfl rfl rfl rfl u1_ rfl fun w0 M E hro=>?_
 repeat' (first|refine Ctl.h ?_ |((with_reducible intro hif);first |(focus (cases hif;done)) |((try simp only[JH]at hif);try exact hy_)) |((with_reducible first|apply J22 cM0_ok za_|apply J23 fol cM0_ok za_|apply J24);(·rfl);(· exact k13_);(try kernel_rfl);try exact k12_)|fail)
 apply At.endsRet za_ (fn:=Try.f138) (rs:=[.tmp 4]) Anc.refl hro (lb_ rfl) rfl
 ·exact k5_
 ·exact k6_
 ·exact k7_
 ·rfl
 ·exact k8_
 ·exact k9_
 ·exact fun β=>rfl
 ·exact k8_):P:=h
theorem d17_ {P : Prop} (h:P:=by
 intro x hx
 simp only[List.mem_cons,List.not_mem_nil,or_false]at hx
 rcases hx with rfl|rfl
 ·exact xl_ t4 e4 g4
 ·exact viewSnd t6 e6 g6):P:=h
theorem d18_ {P : Prop} (h:P:=by
 repeat' (first|refine Ctl.h ?_ |((with_reducible intro hif);first |(focus (cases hif;done)) |((try simp only[JH]at hif);try exact hy_)) |((with_reducible first|apply J22 xk_ za_|apply J23 fol xk_ za_|apply J24);(·rfl);(· exact k31_);(try kernel_rfl);try exact z9_)|fail)
 apply At.endsPick [0,1,2,3,3] za_ (fn:=Try.f116) (rs:=[.tmp 2]) Anc.refl hro (lb_ rfl) rfl
 ·exact k5_
 ·exact yq_
 ·rfl
 ·rfl
 ·rfl
 ·exact k29_
 ·rfl
 ·exact k8_
 ·exact k9_
 ·exact fun β=>rfl
 ·exact k8_):P:=h
theorem d19_ {P : Prop} (h:P:=by
 intro x hx
 simp only[List.mem_cons,List.not_mem_nil,or_false]at hx
 rcases hx with rfl|rfl|rfl
 ·exact xq_ t1 e1 g1
 ·exact xl_ t10 e10 g10
 ·exact viewSnd t12 e12 g12):P:=h
theorem d20_ {P : Prop} (h:P:=by
 intro β1 hv
 simp only[Vd,zb_,and_true]at hv
 obtain⟨z1,z10,z12⟩:=hv
 simp only[denL,yp_,yo_,yn_,z6_,zb_,z1,z10,z12,d1,d10,d12,zc_ b2,zc_ b3,zc_ b4,zc_ b5,zc_ b6,zc_ b7,zc_ b11,←r8Den (β:=β) (β1:=β1) g9]):P:=h
theorem d21_ {P : Prop} (h:P:=by
 intro x hx
 simp only[List.mem_cons,List.not_mem_nil,or_false]at hx
 rcases hx with rfl|rfl
 ·exact xq_ t1 e1 g1
 ·exact xl_ t12 e12 g12):P:=h
theorem d22_ {P : Prop} (h:P:=by
 intro β1 hv
 simp only[Vd,zb_,and_true]at hv
 obtain⟨z1,z12⟩:=hv
 simp only[denL,yp_,yo_,yn_,z6_,zb_,z1,z12,d1,d12,zc_ b2,zc_ b3,zc_ b4,zc_ b5,zc_ b6,zc_ b7,zc_ b8,zc_ b9,zc_ b10,zc_ b11,zc_ b13,zc_ b14]):P:=h
theorem d23_ {P : Prop} (h:P:=by
 by_cases hkf:k < f.toNat
 ·have hkf2:(k:Int) < f:=by omega
  have hn190:=stepE_ne190 P v ⟨at1,false,rg,ce,dr,se⟩
  have hl2:(tr++[at1]).length=k+1:=by simp[hl]
  by_cases hst:stepE P v ⟨at1,false,rg,ce,dr,se⟩=0
  ·repeat' (first|refine Ctl.h ?_ |((with_reducible intro hif);first |(focus (cases hif;done)) |((try simp only[JH]at hif);try exact hy_)) |((with_reducible first|apply J22 zp_ za_|apply J23 fol zp_ za_|apply J24);(·rfl);(· exact k71_);(try kernel_rfl);try exact z9_)|fail)
   with_reducible apply WF.split 3 5
   ·rfl
   with_reducible apply At.run zp_ za_
   ·rfl
   ·rfl
   ·rfl
   ·exact k63_
   ·exact k47_
   with_reducible apply At.yield (gr:=_)
   ·rfl
   ·rfl
   ·rfl
   ·rfl
   ·rfl
   ·rfl
   ·exact k63_
   ·exact k64_
   ·exact k63_
   ·exact k47_
   ·exact k63_
   ·exact k47_
   ·exact k64_
   ·exact hrec
   ·exact hcf
   ·rfl
   ·rfl
   ·rfl
   intro lb E2 next hE2 hnext
   repeat' (first|refine Ctl.h ?_ |((with_reducible intro hif);first |(focus (cases hif;done)) |((try simp only[JH]at hif);try exact hy_)) |((with_reducible first|apply J22 zp_ za_|apply J23 fol zp_ za_|apply J24);(·rfl);(· exact k72_);(try kernel_rfl);try exact z9_)|fail)
   with_reducible apply At.begins hrec
   ·rfl
   with_reducible refine At.code ?_
   repeat' (first|refine Ctl.h ?_ |((with_reducible intro hif);first |(focus (cases hif;done)) |((try simp only[JH]at hif);try exact hy_)) |((with_reducible first|apply J22 zp_ za_|apply J23 fol zp_ za_|apply J24);(·rfl);(· exact k72_);(try kernel_rfl);try exact z9_)|fail)
   with_reducible apply At.roundNormal
   ·exact k64_
   apply hnext
   with_reducible apply At.runEnd zp_ za_
   ·rfl
   ·rfl
   ·rfl
   ·exact k63_
   ·exact k47_
   repeat' (first|refine Ctl.h ?_ |((with_reducible intro hif);first |(focus (cases hif;done)) |((try simp only[JH]at hif);try exact hy_)) |((with_reducible first|apply J22 zp_ za_|apply J23 fol zp_ za_|apply J24);(·rfl);(· exact k72_);(try kernel_rfl);try exact z9_)|fail)
   refine At.nextPick [0,1,2,3,4,5,6,7,8,9,10,11,12,13,14,15,16,18] ⟨k+1,stepS P v ⟨at1,false,rg,ce,dr,se⟩,stepX P ⟨at1,false,rg,ce,dr,se⟩ x,tr++[at1],at1⟩ ?_ rfl rfl rfl ?_ rfl ?_ ?_ ?_ rfl
   ·exact k65_
   ·exact k24_
   ·exact k59_
   ·exact k45_
   ·exact k59_
  ·rw[runA_bad rfl (by omega) hst]at hr1
   subst hr1
   have hb1:decide (stepE P v ⟨at1,false,rg,ce,dr,se⟩=0)=false:=by simp[hst]
   have hb2:(if stepE P v ⟨at1,false,rg,ce,dr,se⟩=190 then 0 else stepE P v ⟨at1,false,rg,ce,dr,se⟩)=stepE P v ⟨at1,false,rg,ce,dr,se⟩:=if_neg hn190
   have hb3:(decide (stepE P v ⟨at1,false,rg,ce,dr,se⟩≠0) && decide (stepE P v ⟨at1,false,rg,ce,dr,se⟩≠190))=true:=by simp[hst,hn190]
   repeat' (first|refine Ctl.h ?_ |((with_reducible intro hif);first |(focus (cases hif;done)) |((try simp only[JH]at hif);try exact hy_)) |((with_reducible first|apply J22 zp_ za_|apply J23 fol zp_ za_|apply J24);(·rfl);(· exact k71_);(try kernel_rfl);try exact z9_)|fail)
   with_reducible apply WF.split 3 5
   ·rfl
   with_reducible apply At.run zp_ za_
   ·rfl
   ·rfl
   ·rfl
   ·exact k63_
   ·exact k47_
   with_reducible apply At.yield (gr:=_)
   ·rfl
   ·rfl
   ·rfl
   ·rfl
   ·rfl
   ·rfl
   ·exact k63_
   ·exact k64_
   ·exact k63_
   ·exact k47_
   ·exact k63_
   ·exact k47_
   ·exact k64_
   ·exact hrec
   ·exact hcf
   ·rfl
   ·rfl
   ·rfl
   intro lb E2 next hE2 hnext
   repeat' (first|refine Ctl.h ?_ |((with_reducible intro hif);first |(focus (cases hif;done)) |((try simp only[JH]at hif);try exact hy_)) |((with_reducible first|apply J22 zp_ za_|apply J23 fol zp_ za_|apply J24);(·rfl);(· exact k72_);(try kernel_rfl);try exact z9_)|fail)
   with_reducible apply At.begins hrec
   ·rfl
   with_reducible refine At.code ?_
   repeat' (first|refine Ctl.h ?_ |((with_reducible intro hif);first |(focus (cases hif;done)) |((try simp only[JH]at hif);try exact hy_)) |((with_reducible first|apply J22 zp_ za_|apply J23 fol zp_ za_|apply J24);(·rfl);(· exact k73_);(try kernel_rfl);try exact z9_)|fail)
   with_reducible apply At.roundRet
   ·exact k64_
   apply hnext
   with_reducible apply At.runEnd zp_ za_
   ·rfl
   ·rfl
   ·rfl
   ·exact k63_
   ·exact k47_
   repeat' (first|refine Ctl.h ?_ |((with_reducible intro hif);first |(focus (cases hif;done)) |((try simp only[JH]at hif);try exact hy_)) |((with_reducible first|apply J22 zp_ za_|apply J23 fol zp_ za_|apply J24);(·rfl);(· exact k72_);(try kernel_rfl);try exact z9_)|fail)
   with_reducible apply At.itRet .done
   ·rfl
   ·rfl
   ·intro h;cases h
   apply haft
   intro w1 M1 D1 hA
   dsimp only
   rw[hb1,hb2]
   try rw[hl2]
   try rw[hb3]
   repeat' (first|refine Ctl.h ?_ |((with_reducible intro hif);first |(focus (cases hif;done)) |((try simp only[JH]at hif);try exact hy_)) |((with_reducible first|apply J22 zp_ za_|apply J23 fol zp_ za_|apply J24);(·rfl);(· exact k72_);(try kernel_rfl);try exact z9_)|fail)
   apply At.endsPick [0,1,2,3,4,5,6,7,8,9,18] za_ (fn:=Try.f17) (rs:=[.cell 4 4,.cell 5 46]) hA hro (lb_ rfl) rfl
   ·exact k5_
   ·exact yq_
   ·rfl
   ·rfl
   ·rfl
   ·exact k24_
   ·rfl
   ·exact k59_
   ·exact k9_
   ·exact fun β=>rfl
   ·exact k59_
 ·have e0:f.toNat - k=0:=by omega
  have hkf2:¬(k:Int) < f:=by omega
  rw[e0,runA_zero rfl]at hr1
  subst hr1
  repeat' (first|refine Ctl.h ?_ |((with_reducible intro hif);first |(focus (cases hif;done)) |((try simp only[JH]at hif);try exact hy_)) |((with_reducible first|apply J22 zp_ za_|apply J23 fol zp_ za_|apply J24);(·rfl);(· exact k74_);(try kernel_rfl);try exact z9_)|fail)
  with_reducible apply WF.split 3 5
  ·rfl
  with_reducible apply At.run zp_ za_
  ·rfl
  ·rfl
  ·rfl
  ·exact k66_
  ·exact k47_
  with_reducible apply At.yield (gr:=_)
  ·rfl
  ·rfl
  ·rfl
  ·rfl
  ·rfl
  ·rfl
  ·exact k66_
  ·exact k67_
  ·exact k66_
  ·exact k47_
  ·exact k66_
  ·exact k47_
  ·exact k67_
  ·exact hrec
  ·exact hcf
  ·rfl
  ·rfl
  ·rfl
  intro lb E2 next hE2 hnext
  repeat' (first|refine Ctl.h ?_ |((with_reducible intro hif);first |(focus (cases hif;done)) |((try simp only[JH]at hif);try exact hy_)) |((with_reducible first|apply J22 zp_ za_|apply J23 fol zp_ za_|apply J24);(·rfl);(· exact k75_);(try kernel_rfl);try exact z9_)|fail)
  with_reducible apply At.begins hrec
  ·rfl
  with_reducible refine At.code ?_
  repeat' (first|refine Ctl.h ?_ |((with_reducible intro hif);first |(focus (cases hif;done)) |((try simp only[JH]at hif);try exact hy_)) |((with_reducible first|apply J22 zp_ za_|apply J23 fol zp_ za_|apply J24);(·rfl);(· exact k75_);(try kernel_rfl);try exact z9_)|fail)
  with_reducible apply At.roundRet
  ·exact k67_
  apply hnext
  with_reducible apply At.runEnd zp_ za_
  ·rfl
  ·rfl
  ·rfl
  ·exact k66_
  ·exact k47_
  repeat' (first|refine Ctl.h ?_ |((with_reducible intro hif);first |(focus (cases hif;done)) |((try simp only[JH]at hif);try exact hy_)) |((with_reducible first|apply J22 zp_ za_|apply J23 fol zp_ za_|apply J24);(·rfl);(· exact k75_);(try kernel_rfl);try exact z9_)|fail)
  with_reducible apply At.itRet .done
  ·rfl
  ·rfl
  ·intro h;cases h
  apply haft
  intro w1 M1 D1 hA
  dsimp only
  try rw[hl]
  repeat' (first|refine Ctl.h ?_ |((with_reducible intro hif);first |(focus (cases hif;done)) |((try simp only[JH]at hif);try exact hy_)) |((with_reducible first|apply J22 zp_ za_|apply J23 fol zp_ za_|apply J24);(·rfl);(· exact k75_);(try kernel_rfl);try exact z9_)|fail)
  apply At.endsPick [0,1,2,3,4,5,6,7,8,9,17] za_ (fn:=Try.f17) (rs:=[.cell 4 4,.cell 5 46]) hA hro (lb_ rfl) rfl
  ·exact k5_
  ·exact yq_
  ·rfl
  ·rfl
  ·rfl
  ·exact k24_
  ·rfl
  ·exact k59_
  ·exact k9_
  ·exact fun β=>rfl
  ·exact k59_):P:=h
theorem d28_ {P : Prop} (h:P:=by
 rw[runA_end rfl]at hr1
 subst hr1
 repeat' (first|refine Ctl.h ?_ |((with_reducible intro hif);first |(focus (cases hif;done)) |((try simp only[JH]at hif);try exact hy_)) |((with_reducible first|apply J22 zp_ za_|apply J23 fol zp_ za_|apply J24);(·rfl);(· exact k75_);(try kernel_rfl);try exact z9_)|fail)
 with_reducible apply At.itNormal .ready
 ·rfl
 ·rfl
 ·intro h;cases h
 apply haft
 intro w1 M1 D1 hA
 dsimp only
 try rw[hl]
 repeat' (first|refine Ctl.h ?_ |((with_reducible intro hif);first |(focus (cases hif;done)) |((try simp only[JH]at hif);try exact hy_)) |((with_reducible first|apply J22 zp_ za_|apply J23 fol zp_ za_|apply J24);(·rfl);(· exact k75_);(try kernel_rfl);try exact z9_)|fail)
 apply At.endsPick [0,1,2,3,4,5,6,7,8,9,17] za_ (fn:=Try.f17) (rs:=[.cell 4 4,.cell 5 46]) hA hro (lb_ rfl) rfl
 ·exact k5_
 ·exact yq_
 ·rfl
 ·rfl
 ·rfl
 ·exact k24_
 ·rfl
 ·exact k59_
 ·exact k9_
 ·exact fun β=>rfl
 ·exact k59_):P:=h
theorem d29_ {P : Prop} (h:P:=by
 intro x hx
 simp only[List.mem_cons,List.not_mem_nil,or_false]at hx
 rcases hx with rfl|rfl
 ·exact xl_ t3 e3 g3
 ·exact xq_ t6 e6 g6):P:=h
theorem d30_ {P : Prop} (h:P:=by
 intro β1 hv
 simp only[Vd,zb_,and_true]at hv
 obtain⟨z3,z6⟩:=hv
 simp only[denL,yp_,yo_,yn_,z6_,zb_,z3,z6,d3,d6,zc_ b1,zc_ b4,zc_ b5,←r8Den (β:=β) (β1:=β1) g2]):P:=h
theorem d31_ {P : Prop} (h:P:=by
 intro β1 hv
 simp only[Vd,zb_,and_true]at hv
 obtain⟨z1,z12⟩:=hv
 simp only[denL,yp_,yo_,yn_,z6_,zb_,z1,z12,d1,d12,zc_ b2,zc_ b3,zc_ b4,zc_ b5,zc_ b6,zc_ b7,zc_ b8,zc_ b9,zc_ b10,zc_ b11,zc_ b13,zc_ b14,zc_ b15]):P:=h
theorem d32_ {P : Prop} (h:P:=by
 intro β1 hv
 simp only[Vd,zb_,and_true]at hv
 have z1:=hv
 simp only[denL,yp_,yo_,yn_,z6_,zb_,z1,d1,zc_ b2]):P:=h
theorem d33_ {P : Prop} (h:P:=by
 apply At.endsRet za_ (fn:=Try.f68) (rs:=[.tmp 2]) Anc.refl hro (lb_ rfl) rfl
 ·exact k76_
 ·exact k6_
 ·exact k7_
 ·rfl
 ·exact k77_
 ·exact k9_
 ·intro β;simp[resS,SV.den,rightI,hif]
 ·exact k77_):P:=h
theorem d34_ {P : Prop} (h:P:=by
 intro x hx
 simp only[List.mem_cons,List.not_mem_nil,or_false]at hx
 subst hx
 ·exact xq_ t1 e1 g1):P:=h
theorem d35_ {P : Prop} (h:P:=by
 intro β1 hv
 simp only[Vd,zb_,and_true]at hv
 have z1:=hv
 simp only[denL,yp_,yo_,yn_,z6_,zb_,z1,d1]):P:=h
theorem d36_ {P : Prop} (h:P:=by
 have hu:updF F (k+1) f=none:=by unfold updF;rw[hJ];simp[hsm]
 with_reducible apply WF.split 6 2
 ·rfl
 with_reducible apply At.run zi_ za_
 ·rfl
 ·rfl
 ·rfl
 ·exact k104_
 ·exact k105_
 with_reducible apply At.yield (gr:=_)
 ·rfl
 ·rfl
 ·rfl
 ·rfl
 ·rfl
 ·rfl
 ·exact k104_
 ·exact k106_
 ·exact k104_
 ·exact k105_
 ·exact k104_
 ·exact k105_
 ·exact k106_
 ·exact hrec
 ·exact hcf
 ·rfl
 ·rfl
 ·rfl
 intro lb E2 next hE2 hnext
 repeat' (first|refine Ctl.h ?_ |((with_reducible intro hif);first |(focus (cases hif;done)) |((try simp only[JH]at hif);try exact hy_)) |((with_reducible first|apply J22 zi_ za_|apply J23 fol zi_ za_|apply J24);(·rfl);(· exact k116_);(try kernel_rfl);try exact k115_)|fail)
 with_reducible apply At.begins hrec
 ·rfl
 with_reducible refine At.code ?_
 repeat' (first|refine Ctl.h ?_ |((with_reducible intro hif);first |(focus (cases hif;done)) |((try simp only[JH]at hif);try exact hy_)) |((with_reducible first|apply J22 zi_ za_|apply J23 fol zi_ za_|apply J24);(·rfl);(· exact k116_);(try kernel_rfl);try exact k115_)|fail)
 with_reducible apply At.roundNormal
 ·exact k106_
 apply hnext
 with_reducible apply At.runEnd zi_ za_
 ·rfl
 ·rfl
 ·rfl
 ·exact k104_
 ·exact k105_
 repeat' (first|refine Ctl.h ?_ |((with_reducible intro hif);first |(focus (cases hif;done)) |((try simp only[JH]at hif);try exact hy_)) |((with_reducible first|apply J22 zi_ za_|apply J23 fol zi_ za_|apply J24);(·rfl);(· exact k116_);(try kernel_rfl);try exact k115_)|fail)
 refine At.join () ?_ ?_ ?_ rfl ?_ ?_ rfl
 ·exact fun _=>hu
 ·exact k28_
 ·exact k7_
 ·exact zz_
 ·exact zz_):P:=h
theorem d37_ {P : Prop} (h:P:=by
 have hu:updF F T f=none:=by unfold updF;rw[hJ];simp[hsm]
 with_reducible apply WF.split 3 0
 ·rfl
 with_reducible apply At.run zi_ za_
 ·rfl
 ·rfl
 ·rfl
 ·exact k108_
 ·exact k105_
 with_reducible apply At.yield (gr:=_)
 ·rfl
 ·rfl
 ·rfl
 ·rfl
 ·rfl
 ·rfl
 ·exact k108_
 ·exact k109_
 ·exact k108_
 ·exact k105_
 ·exact k108_
 ·exact k105_
 ·exact k109_
 ·exact hrec
 ·exact hcf
 ·rfl
 ·rfl
 ·rfl
 intro lb E2 next hE2 hnext
 repeat' (first|refine Ctl.h ?_ |((with_reducible intro hif);first |(focus (cases hif;done)) |((try simp only[JH]at hif);try exact hy_)) |((with_reducible first|apply J22 zi_ za_|apply J23 fol zi_ za_|apply J24);(·rfl);(· exact k117_);(try kernel_rfl);try exact k115_)|fail)
 with_reducible apply At.begins hrec
 ·rfl
 with_reducible refine At.code ?_
 repeat' (first|refine Ctl.h ?_ |((with_reducible intro hif);first |(focus (cases hif;done)) |((try simp only[JH]at hif);try exact hy_)) |((with_reducible first|apply J22 zi_ za_|apply J23 fol zi_ za_|apply J24);(·rfl);(· exact k117_);(try kernel_rfl);try exact k115_)|fail)
 with_reducible apply At.roundNormal
 ·exact k109_
 apply hnext
 with_reducible apply At.runEnd zi_ za_
 ·rfl
 ·rfl
 ·rfl
 ·exact k108_
 ·exact k105_
 repeat' (first|refine Ctl.h ?_ |((with_reducible intro hif);first |(focus (cases hif;done)) |((try simp only[JH]at hif);try exact hy_)) |((with_reducible first|apply J22 zi_ za_|apply J23 fol zi_ za_|apply J24);(·rfl);(· exact k117_);(try kernel_rfl);try exact k115_)|fail)
 have hs0:scanY F (yl_ x k (ys_ F k))=none:=by rw[zh];exact scanE_0 h1 (fun _=>by rw[hTn];exact hu)
 with_reducible apply At.itNormal .ready
 ·rfl
 ·rfl
 ·intro h;cases h
 apply haft
 intro w1 M1 D1 hA
 dsimp only
 repeat' (first|refine Ctl.h ?_ |((with_reducible intro hif);first |(focus (cases hif;done)) |((try simp only[JH]at hif);try exact hy_)) |((with_reducible first|apply J22 zi_ za_|apply J23 fol zi_ za_|apply J24);(·rfl);(· exact k113_);(try kernel_rfl);try exact k81_)|fail)
 refine At.nextB hA [0,1,2,3,4] (k+1) ?_ rfl rfl rfl ?_ rfl ?_ ?_ ?_ rfl
 ·exact k103_
 ·exact k24_
 ·exact zz_
 ·exact k45_
 ·exact zz_):P:=h
theorem d38_ {P : Prop} (h:P:=by
 have:mdN s x k=y7_ x:=by rw[hT];simp[mdN,q,z]
 rw[this]
 cases hi:(f.regs x.a.toNat).is_
 ·simp[yl_,q,hi];exact emit_to ht
 ·simp[yl_,q,hi,hA hi,z];exact emit_to rfl):P:=h
theorem d39_ {P : Prop} (h:P:=by
 have:mdN s x k=k+1:=by simp[mdN,q,z]
 rw[this]
 cases hi:(f.regs x.a.toNat).is_
 ·simp[yl_,q,hi];exact emit_go hg
 ·simp[yl_,q,hi,hA hi,z];exact emit_go rfl):P:=h
end Go.Proofs.Ytjliakjbdcplcaa.Vm
end
section
namespace Go.Proofs.Ytjliakjbdcplcaa.Vm
theorem d3_ {P : Prop} (h:P:=by
 have e:(List.range n).flatMap (fun i=>fit k (((f i).den β).cells.toList.map sane))=(List.range n).flatMap (fun i=>fit k (((g i).den β).cells.toList.map sane)):=by
  rw[List.flatMap_def,List.flatMap_def]
  exact congrArg List.flatten (List.map_congr_left fun q hq=>congrArg (fit k) (h q (List.mem_range.1 hq)))
 simp only[SV.cl,SV.den,e]):P:=h
end Go.Proofs.Ytjliakjbdcplcaa.Vm
end
section
namespace Go.Proofs.Ytjliakjbdcplcaa.Vm
theorem lb_ {m n:Nat}(h:Nat.ble m n=true):m≤n:=Nat.le_of_ble_eq_true h
end Go.Proofs.Ytjliakjbdcplcaa.Vm
end
set_option linter.unusedSimpArgs false
set_option linter.unusedVariables false
section
namespace Go.Proofs.Ytjliakjbdcplcaa.Vm
theorem u1_ {P:Prop}(h:P:=by simp only[zd_,Stable,hp,i64S,prS,insS,zt_,sndS,stS,evS,macS];simp[HB.born,mB,cB,sB]):P:=h
theorem u2_ {P:Prop}(h:P:=by(repeat' (first|exact trivial|exact rfl|assumption|apply Stable.ite|apply And.intro|intro _ |(simp only[Stable,zd_,i64S,prS,insS,zt_,sndS];done)))):P:=h
theorem u3_ {P:Prop}(h:P:=by simp only[zd_,Stable,hp,i64S,prS,insS,zt_,sndS,stS,evS,macS];simp[HB.born]):P:=h
theorem u4_ {P:Prop}(h:P:=by simp only[zd_,Stable,hp,i64S,prS,insS,zt_,sndS,stS,evS,macS,mB,cB,sB,HB.stable];simp[HB.born]):P:=h
theorem u5_ {P:Prop}(h:P:=by simp only[zd_,Stable,hp,i64S,prS,insS,zt_,sndS,stS,evS,macS,mB,cB,sB,eB,prO,HB.stable];simp[HB.born]):P:=h
theorem u6_ {P:Prop}(h:P:=by simp only[zd_,Stable,hp,i64S,prS,insS,zt_,sndS,stS,evS,macS,mB,cB,sB,eS,prO,prR,HB.stable];simp[HB.born]):P:=h
theorem u7_ {P:Prop}(h:P:=by simp only[zd_,Stable,hp,i64S,prS,insS,zt_,sndS,stS,evS,macS,mB,cB,sB,eB,prO,prR,HB.stable];simp[HB.born]):P:=h
theorem u8_ {P:Prop}(h:P:=by simp only[zd_,Stable,hp,i64S,prS,insS,zt_,sndS,stS,evS,macS,mB,cB,sB,eB,prO,prR,pbB,fbB,HB.stable];simp[HB.born]):P:=h
theorem u9_ {P:Prop}(h:P:=by simp only[zd_,Stable,hp,i64S,prS,insS,zt_,sndS,stS,evS,macS,mB,cB,sB,eB,prO,prR,pbB,fbB,rB,rvS,HB.stable];simp[HB.born,rB,rvS,eB,mB,cB,sB,prO]):P:=h
theorem u10_ {P:Prop}(h:P:=by simp only[zd_,Stable,hp];simp[HB.born]):P:=h
theorem u11_ {P:Prop}(h:P:=by simp only[zd_,Stable,hp,i64S,prS,insS,zt_,sndS,stS,evS,macS,HB.stable];simp[HB.born]):P:=h
theorem u12_ {P:Prop}(h:P:=by simp only[zd_,Stable,hp,i64S,prS,insS,zt_,sndS,stS,evS,macS,cB,sB,kS,kaS,ftS,ftsS,HB.stable];simp[HB.born]):P:=h
theorem k1_ {P:Prop}(h:P:=by rw[List.length_append,clL_length,ho,hl];rfl):P:=h
theorem k2_ {P:Prop}(h:P:=by rw[yb_ hj];exact HB.stable_more (R.st j) born):P:=h
theorem k3_ {P:Prop}(h:P:=by rename_i q;intro hf hc;obtain⟨q1,q2,q3,q4⟩:=hc;exact⟨by omega,by omega,by omega,fun t=>by omega,by omega⟩):P:=h
theorem k4_ {P:Prop}(h:P:=by rename_i q;intro hf hc;obtain⟨q1,q2,q3,q4,q5⟩:=hc;exact⟨by omega,by omega,by omega,fun t=>by omega,by omega⟩):P:=h
theorem k5_ {P:Prop}(h:P:=by simp only[push_cast,↓JP,Nat.reduceAdd,Nat.reduceEqDiff,Nat.reduceLT,Nat.reduceMul,Nat.reduceLeDiff,reduceCtorEq,reduceIte,↓JK,resV,resV1];rfl):P:=h
theorem k6_ {P:Prop}(h:P:=by(first|trivial |(simp only[and_self];done))):P:=h
theorem k7_ {P:Prop}(h:P:=by(repeat' (first|exact trivial|exact .same _|exact .dead _|exact .gone rfl|exact .loose|assumption|exact .arr (by assumption)|apply And.intro))):P:=h
theorem k8_ {P:Prop}(h:P:=by(repeat' (first|exact trivial|exact rfl|assumption|apply Stable.ite|apply And.intro|intro _ |(simp only[Stable,zd_,i64S,prS,insS,zt_,sndS,stS,evS,macS];done)))):P:=h
theorem k9_ {P:Prop}(h:P:=by(repeat' (first|exact trivial|exact .inl rfl|exact .inr rfl|exact rfl|apply And.intro))):P:=h
theorem k10_ {P:Prop}(h:P:=by(first|exact True.intro |((try simp only[JS,implies_true,forall_const,z3_,z5_,kndOf,inR]);(repeat' (first|assumption|exact True.intro|omega|apply And.intro));done))):P:=h
theorem k11_ {P:Prop}(h:P:=by(simp only[push_cast,↓JP,Nat.reduceAdd,Nat.reduceEqDiff,Nat.reduceLT,Nat.reduceMul,Nat.reduceLeDiff,reduceCtorEq,reduceIte,↓JK,JM,inR];rfl)):P:=h
theorem k12_ {P:Prop}(h:P:=by(first|exact True.intro |((try simp only[JS,implies_true,forall_const,z3_,z5_,kndOf,inR,inN]);(repeat' (first|assumption|exact True.intro|omega|apply And.intro));done))):P:=h
theorem k13_ {P:Prop}(h:P:=by(simp only[push_cast,↓JP,Nat.reduceAdd,Nat.reduceEqDiff,Nat.reduceLT,Nat.reduceMul,Nat.reduceLeDiff,reduceCtorEq,reduceIte,↓JK,JM,inR,inN,Bool.cond_decide];rfl)):P:=h
theorem yq_ {P:Prop}(h:P:=by(focus (first|exact True.intro |((try simp only[JS,implies_true,forall_const,z3_,z5_,kndOf]);(repeat' (first|assumption|exact True.intro|omega|apply And.intro));done)))):P:=h
theorem k15_ {P:Prop}(h:P:=by(repeat' (first|exact trivial|exact .inl rfl|exact .inr (.same _)|exact .inr .loose|exact .inr (.arr (by assumption))|apply And.intro |(exact .inr (.same _)) |(refine .inr (less_mac _ _ _ ?_ ?_ ?_ ?_ ?_ ?_ ?_ ?_)<;>first|rfl |(intro q _ β;rfl)|omega|simp) |(refine .inr (less_set _ _ _ ?_ ?_)<;>first|rfl |(intro q _ β;rfl)|omega|simp)))):P:=h
theorem z9_ {P:Prop}(h:P:=by(first|exact True.intro |((try simp only[JS,implies_true,forall_const,z3_,z5_,kndOf]);(repeat' (first|assumption|exact True.intro|omega|apply And.intro));done))):P:=h
theorem k17_ {P:Prop}(h:P:=by(simp only[push_cast,↓JP,Nat.reduceAdd,Nat.reduceEqDiff,Nat.reduceLT,Nat.reduceMul,Nat.reduceLeDiff,reduceCtorEq,reduceIte,↓JK,cM1,sDraw,JE,Bool.cond_decide];rfl)):P:=h
theorem k18_ {P:Prop}(h:P:=by(simp only[push_cast,↓JP,Nat.reduceAdd,Nat.reduceEqDiff,Nat.reduceLT,Nat.reduceMul,Nat.reduceLeDiff,reduceCtorEq,reduceIte,↓JK,cM1,sDraw,JE,Bool.cond_decide,decide_eq_true_eq];rfl)):P:=h
theorem k19_ {P:Prop}(h:P:=by(simp only[push_cast,↓JP,Nat.reduceAdd,Nat.reduceEqDiff,Nat.reduceLT,Nat.reduceMul,Nat.reduceLeDiff,reduceCtorEq,reduceIte,↓JK,cM1,sDraw,JE,Bool.cond_decide,h1,h2];rfl)):P:=h
theorem k20_ {P:Prop}(h:P:=by(simp only[push_cast,↓JP,Nat.reduceAdd,Nat.reduceEqDiff,Nat.reduceLT,Nat.reduceMul,Nat.reduceLeDiff,reduceCtorEq,reduceIte,↓JK,cM1,sDraw,JE,Bool.cond_decide,hw];rfl)):P:=h
theorem k21_ {P:Prop}(h:P:=by(simp only[push_cast,↓JP,Nat.reduceAdd,Nat.reduceEqDiff,Nat.reduceLT,Nat.reduceMul,Nat.reduceLeDiff,reduceCtorEq,reduceIte,↓JK,cM1,sDraw,JE,Bool.cond_decide,q0,q1];rfl)):P:=h
theorem k22_ {P:Prop}(h:P:=by(first|exact True.intro |((try simp only[JS,implies_true,forall_const,z3_,z5_,kndOf]);(first|first|omega|exact⟨R,S⟩ |(repeat' (first|assumption|exact True.intro|omega|apply And.intro)));done))):P:=h
theorem k23_ {P:Prop}(h:P:=by(simp only[push_cast,↓JP,Nat.reduceAdd,Nat.reduceEqDiff,Nat.reduceLT,Nat.reduceMul,Nat.reduceLeDiff,reduceCtorEq,reduceIte,↓JK,cM2,sDraw,JE,Bool.cond_decide,cellF,hcb];rfl)):P:=h
theorem k24_ {P:Prop}(h:P:=by(repeat' (first|exact trivial|exact .inl rfl|exact .inr (.same _)|exact .inr .loose|exact .inr (.arr (by assumption))|apply And.intro))):P:=h
theorem k25_ {P:Prop}(h:P:=by(repeat' (first|exact trivial|exact .inl rfl|exact .inr (.same _)|exact .inr .loose|exact .inr (.arr (by assumption))|apply And.intro |(exact .inr (.same _)) |(refine .inr (less_mac _ _ _ ?_ ?_ ?_ ?_ ?_ ?_ ?_ ?_)<;>first|rfl |(intro q _ β;rfl)|omega|simp) |(refine .inr (less_set _ _ _ ?_ ?_)<;>first|rfl |(intro q _ β;rfl)|omega|simp) |(exact .inr (hY _))))):P:=h
theorem k26_ {P:Prop}(h:P:=by(simp only[push_cast,↓JP,Nat.reduceAdd,Nat.reduceEqDiff,Nat.reduceLT,Nat.reduceMul,Nat.reduceLeDiff,reduceCtorEq,reduceIte,↓JK,JM,JE,inR,inN];rfl)):P:=h
theorem k27_ {P:Prop}(h:P:=by(simp only[push_cast,↓JP,Nat.reduceAdd,Nat.reduceEqDiff,Nat.reduceLT,Nat.reduceMul,Nat.reduceLeDiff,reduceCtorEq,reduceIte,↓JK,Bool.cond_decide,q0,q1,q2,q3];rfl)):P:=h
theorem k28_ {P:Prop}(h:P:=by((repeat' (first|exact trivial|apply And.intro))<;>(first|rfl |(simp only[look,cond_true,cond_false];done)))):P:=h
theorem k29_ {P:Prop}(h:P:=by(repeat' (first|exact trivial|exact .inl rfl|exact .inr (.same _)|exact .inr .loose|exact .inr (.arr (by assumption))|apply And.intro |(exact .inr (.same _)) |(refine .inr (less_mac _ _ _ ?_ ?_ ?_ ?_ ?_ ?_ ?_ ?_)<;>first|rfl |(intro q _ β;rfl)|omega|simp)))):P:=h
theorem k30_ {P:Prop}(h:P:=by(simp only[push_cast,↓JP,Nat.reduceAdd,Nat.reduceEqDiff,Nat.reduceLT,Nat.reduceMul,Nat.reduceLeDiff,reduceCtorEq,reduceIte,↓JK,cD,Bool.cond_decide,kindF_0,kindF_1,kindF_2,kindF_3,kindF_4,kindF_5,kindF_6,kindF_7,kindF_8,kindF_9,kindF_10];rfl)):P:=h
theorem k31_ {P:Prop}(h:P:=by(simp only[push_cast,↓JP,Nat.reduceAdd,Nat.reduceEqDiff,Nat.reduceLT,Nat.reduceMul,Nat.reduceLeDiff,reduceCtorEq,reduceIte,↓JK,cD,Bool.cond_decide,kindF_0,kindF_1,kindF_2,kindF_3,kindF_4,kindF_5,kindF_6,kindF_7,kindF_8,kindF_9,kindF_10,ho];rfl)):P:=h
theorem k32_ {P:Prop}(h:P:=by(repeat' (first|exact trivial|exact rfl|assumption|apply Stable.ite|apply And.intro|intro _ |(simp only[Stable,zd_,i64S,prS,insS,zt_,sndS,stS,evS,macS,mB,cB,sB,HB.stable];done)))):P:=h
theorem k33_ {P:Prop}(h:P:=by(repeat' (first|exact trivial|exact rfl|assumption|apply Stable.ite|apply And.intro|intro _ |(simp only[Stable,zd_,i64S,prS,insS,zt_,sndS,stS,evS,macS,mB,cB,sB,eB,prO,HB.stable];done)))):P:=h
theorem k34_ {P:Prop}(h:P:=by(simp only[push_cast,↓JP,Nat.reduceAdd,Nat.reduceEqDiff,Nat.reduceLT,Nat.reduceMul,Nat.reduceLeDiff,reduceCtorEq,reduceIte,↓JK,JM,prR,cSt,mS,macP,doF,JE,inR,inN,Bool.cond_decide];rfl)):P:=h
theorem k35_ {P:Prop}(h:P:=by(first|exact True.intro |((try simp only[JS,implies_true,forall_const,z3_,z5_,kndOf,inR,inN]);(first|first|omega|exact⟨hP,hn⟩ |(repeat' (first|assumption|exact True.intro|omega|apply And.intro)));done))):P:=h
theorem k36_ {P:Prop}(h:P:=by(simp only[push_cast,↓JP,Nat.reduceAdd,Nat.reduceEqDiff,Nat.reduceLT,Nat.reduceMul,Nat.reduceLeDiff,reduceCtorEq,reduceIte,↓JK,JM,cOp,sCheck,sVRight,sSRight,sCopied,JE,inR,inN,q1,q2,q3];rfl)):P:=h
theorem k37_ {P:Prop}(h:P:=by(first|exact True.intro |((try simp only[JS,implies_true,forall_const,z3_,z5_,kndOf,inR,inN]);(first|first|omega|exact⟨hP,hn2⟩ |(repeat' (first|assumption|exact True.intro|omega|apply And.intro)));done))):P:=h
theorem k38_ {P:Prop}(h:P:=by(repeat' (first|exact trivial|exact rfl|assumption|apply Stable.ite|apply And.intro|intro _ |(simp only[Stable,zd_,i64S,prS,insS,zt_,sndS,stS,evS,macS,mB,cB,sB,eS,prO,prR,HB.stable];done)))):P:=h
theorem k39_ {P:Prop}(h:P:=by(repeat' (first|exact trivial|exact rfl|assumption|apply Stable.ite|apply And.intro|intro _ |(simp only[Stable,zd_,i64S,prS,insS,zt_,sndS,stS,evS,macS,mB,cB,sB,eB,prO,prR,HB.stable];done)))):P:=h
theorem k40_ {P:Prop}(h:P:=by(simp only[push_cast,↓JP,Nat.reduceAdd,Nat.reduceEqDiff,Nat.reduceLT,Nat.reduceMul,Nat.reduceLeDiff,reduceCtorEq,reduceIte,↓JK,JM,JE,eS,cEn,eN,inR,inN];rfl)):P:=h
theorem k41_ {P:Prop}(h:P:=by(simp only[push_cast,↓JP,Nat.reduceAdd,Nat.reduceEqDiff,Nat.reduceLT,Nat.reduceMul,Nat.reduceLeDiff,reduceCtorEq,reduceIte,↓JK,inR,inN,h1,h2];rfl)):P:=h
theorem k42_ {P:Prop}(h:P:=by simp only[push_cast,↓JP,Nat.reduceAdd,Nat.reduceEqDiff,Nat.reduceLT,Nat.reduceMul,Nat.reduceLeDiff,reduceCtorEq,reduceIte,↓JK];rfl):P:=h
theorem k43_ {P:Prop}(h:P:=by(repeat' (first|exact trivial|exact .inl rfl|exact .inr (.same _)|exact .inr .loose|exact .inr (.arr (by assumption))|apply And.intro |(exact .inr (hl0 true))))):P:=h
theorem k44_ {P:Prop}(h:P:=by(repeat' (first|exact trivial|exact rfl|assumption|exact hst _ _|exact hst1 _ _|exact hst2 _ _|apply Stable.ite|apply And.intro|intro _ |(simp only[Stable,zd_,i64S,prS,insS,zt_,sndS,stS,evS,macS,mB,cB,sB,eB,prO,prR,pbB,fbB,HB.stable];done)))):P:=h
theorem k45_ {P:Prop}(h:P:=by(repeat' (first|exact trivial|exact⟨_,rfl,fun β=>rfl⟩|apply And.intro))):P:=h
theorem k46_ {P:Prop}(h:P:=by simp only[push_cast,↓JP,Nat.reduceAdd,Nat.reduceEqDiff,Nat.reduceLT,Nat.reduceMul,Nat.reduceLeDiff,reduceCtorEq,reduceIte,↓JK,xa_,List.drop_zero,List.drop_succ_cons,cRun,JM,engP,prP,macP,ym_,memN,eB,prO,pbB,fbB,JE,eEnded,eAt,eStep,xp_,inR,inN,hst];rfl):P:=h
theorem k47_ {P:Prop}(h:P:=by(focus (first|exact True.intro |((try simp only[JS,implies_true,forall_const,z3_,z5_,kndOf,inR,inN]);(repeat' (first|assumption|exact True.intro|omega|apply And.intro));done)))):P:=h
theorem k48_ {P:Prop}(h:P:=by first|rfl |(simp only[push_cast,↓JP,Nat.reduceAdd,Nat.reduceEqDiff,Nat.reduceLT,Nat.reduceMul,Nat.reduceLeDiff,reduceCtorEq,reduceIte,↓JK,xa_,List.drop_zero,List.drop_succ_cons,cRun,JM,engP,prP,macP,ym_,memN,eB,prO,pbB,fbB,JE,eEnded,eAt,eStep,xp_,inR,inN,hst];done)):P:=h
theorem k49_ {P:Prop}(h:P:=by exact⟨⟨hkf,stepS_good hg hP,by simp[hl],by rw[←hr1,runA_go rfl (by omega) hst];rfl⟩,by show f.toNat - (k+1) < f.toNat - k;omega⟩):P:=h
theorem k50_ {P:Prop}(h:P:=by(first|exact True.intro |((try simp only[JS,implies_true,forall_const,z3_,z5_,kndOf,inR,inN]);(first|first|omega|exact⟨hok,hn',hc⟩ |(repeat' (first|assumption|exact True.intro|omega|apply And.intro)));done))):P:=h
theorem k51_ {P:Prop}(h:P:=by(simp only[push_cast,↓JP,Nat.reduceAdd,Nat.reduceEqDiff,Nat.reduceLT,Nat.reduceMul,Nat.reduceLeDiff,reduceCtorEq,reduceIte,↓JK,cRun,sRoG,sSteps,JE,hs0,inR,inN,hE];rfl)):P:=h
theorem k52_ {P:Prop}(h:P:=by(simp only[push_cast,↓JP,Nat.reduceAdd,Nat.reduceEqDiff,Nat.reduceLT,Nat.reduceMul,Nat.reduceLeDiff,reduceCtorEq,reduceIte,↓JK,JM,engP,prP,macP,ym_,memN,eB,prO,pbB,fbB,JE,inR,inN];rfl)):P:=h
theorem k53_ {P:Prop}(h:P:=by(simp only[push_cast,↓JP,Nat.reduceAdd,Nat.reduceEqDiff,Nat.reduceLT,Nat.reduceMul,Nat.reduceLeDiff,reduceCtorEq,reduceIte,↓JK,cRun,JM,engP,prP,macP,ym_,memN,eB,prO,pbB,fbB,JE,eEnded,eAt,eStep,xp_,inR,inN,hst,hkf2];rfl)):P:=h
theorem k54_ {P:Prop}(h:P:=by(simp only[push_cast,↓JP,Nat.reduceAdd,Nat.reduceEqDiff,Nat.reduceLT,Nat.reduceMul,Nat.reduceLeDiff,reduceCtorEq,reduceIte,↓JK,cRun,JM,engP,prP,macP,ym_,memN,eB,prO,pbB,fbB,JE,eEnded,eAt,eStep,xp_,inR,inN,hst];rfl)):P:=h
theorem k55_ {P:Prop}(h:P:=by(simp only[push_cast,↓JP,Nat.reduceAdd,Nat.reduceEqDiff,Nat.reduceLT,Nat.reduceMul,Nat.reduceLeDiff,reduceCtorEq,reduceIte,↓JK,cRun,JM,engP,prP,macP,ym_,memN,eB,prO,pbB,fbB,JE,eEnded,eAt,eStep,xp_,inR,inN,hl];rfl)):P:=h
theorem k56_ {P:Prop}(h:P:=by(repeat' (first|exact trivial|exact rfl|assumption|apply Stable.ite|apply And.intro|intro _ |(simp only[Stable,zd_,i64S,prS,insS,zt_,sndS,stS,evS,macS,mB,cB,sB,eB,prO,prR,pbB,fbB,HB.stable];done)))):P:=h
theorem k57_ {P:Prop}(h:P:=by simp only[push_cast,↓JP,Nat.reduceAdd,Nat.reduceEqDiff,Nat.reduceLT,Nat.reduceMul,Nat.reduceLeDiff,reduceCtorEq,reduceIte,↓JK,xa_,List.drop_zero,List.drop_succ_cons,cRun,JM,engP,prP,macP,ym_,memN,eB,prO,pbB,fbB,JE,eEnded,eAt,eStep,xp_,inR,inN];rfl):P:=h
theorem k58_ {P:Prop}(h:P:=by first|rfl |(simp only[push_cast,↓JP,Nat.reduceAdd,Nat.reduceEqDiff,Nat.reduceLT,Nat.reduceMul,Nat.reduceLeDiff,reduceCtorEq,reduceIte,↓JK,xa_,List.drop_zero,List.drop_succ_cons,cRun,JM,engP,prP,macP,ym_,memN,eB,prO,pbB,fbB,JE,eEnded,eAt,eStep,xp_,inR,inN];done)):P:=h
theorem k59_ {P:Prop}(h:P:=by(repeat' (first|exact trivial|exact rfl|assumption|apply Stable.ite|apply And.intro|intro _ |(simp only[Stable,zd_,i64S,prS,insS,zt_,sndS,stS,evS,macS,mB,cB,sB,eB,prO,prR,pbB,fbB,rB,rvS,HB.stable];done)))):P:=h
theorem k60_ {P:Prop}(h:P:=by(simp only[push_cast,↓JP,Nat.reduceAdd,Nat.reduceEqDiff,Nat.reduceLT,Nat.reduceMul,Nat.reduceLeDiff,reduceCtorEq,reduceIte,↓JK,cRun,JM,engP,prP,macP,ym_,memN,eB,prO,pbB,fbB,JE,eEnded,eAt,eStep,xp_,inR,inN];rfl)):P:=h
theorem k61_ {P:Prop}(h:P:=by(first|exact True.intro |((try simp only[JS,implies_true,forall_const,z3_,z5_,kndOf,inR,inN]);(first|first|omega|exact⟨hok,hn,hc⟩ |(repeat' (first|assumption|exact True.intro|omega|apply And.intro)));done))):P:=h
theorem k62_ {P:Prop}(h:P:=by(simp only[push_cast,↓JP,Nat.reduceAdd,Nat.reduceEqDiff,Nat.reduceLT,Nat.reduceMul,Nat.reduceLeDiff,reduceCtorEq,reduceIte,↓JK,cRej,sRoB,JE,hs0,inR,inN,hE];rfl)):P:=h
theorem k63_ {P:Prop}(h:P:=by simp only[push_cast,↓JP,Nat.reduceAdd,Nat.reduceEqDiff,Nat.reduceLT,Nat.reduceMul,Nat.reduceLeDiff,reduceCtorEq,reduceIte,↓JK,xa_,List.drop_zero,List.drop_succ_cons,cGo,JM,engP,prP,macP,ym_,memN,eB,prO,pbB,fbB,rB,rvS,JE,eEnded,eAt,eStep,xp_,inR,inN,hst];rfl):P:=h
theorem k64_ {P:Prop}(h:P:=by first|rfl |(simp only[push_cast,↓JP,Nat.reduceAdd,Nat.reduceEqDiff,Nat.reduceLT,Nat.reduceMul,Nat.reduceLeDiff,reduceCtorEq,reduceIte,↓JK,xa_,List.drop_zero,List.drop_succ_cons,cGo,JM,engP,prP,macP,ym_,memN,eB,prO,pbB,fbB,rB,rvS,JE,eEnded,eAt,eStep,xp_,inR,inN,hst];done)):P:=h
theorem k65_ {P:Prop}(h:P:=by exact⟨⟨hkf,stepS_good hg hP,hl2,by rw[←hr1,runA_go rfl (by omega) hst];rfl⟩,by show f.toNat - (k+1) < f.toNat - k;omega⟩):P:=h
theorem k66_ {P:Prop}(h:P:=by simp only[push_cast,↓JP,Nat.reduceAdd,Nat.reduceEqDiff,Nat.reduceLT,Nat.reduceMul,Nat.reduceLeDiff,reduceCtorEq,reduceIte,↓JK,xa_,List.drop_zero,List.drop_succ_cons,cGo,JM,engP,prP,macP,ym_,memN,eB,prO,pbB,fbB,rB,rvS,JE,eEnded,eAt,eStep,xp_,inR,inN];rfl):P:=h
theorem k67_ {P:Prop}(h:P:=by first|rfl |(simp only[push_cast,↓JP,Nat.reduceAdd,Nat.reduceEqDiff,Nat.reduceLT,Nat.reduceMul,Nat.reduceLeDiff,reduceCtorEq,reduceIte,↓JK,xa_,List.drop_zero,List.drop_succ_cons,cGo,JM,engP,prP,macP,ym_,memN,eB,prO,pbB,fbB,rB,rvS,JE,eEnded,eAt,eStep,xp_,inR,inN];done)):P:=h
theorem k68_ {P:Prop}(h:P:=by(repeat' (first|exact trivial|exact rfl|assumption|apply Stable.ite|apply And.intro|intro _ |(simp only[Stable,zd_,i64S,prS,insS,zt_,sndS,stS,evS,macS,mB,cB,sB,eB,prO,prR,pbB,fbB,rB,rvS,clA,clB,clC,fsS,HB.stable];done)))):P:=h
theorem k69_ {P:Prop}(h:P:=by(simp only[push_cast,↓JP,Nat.reduceAdd,Nat.reduceEqDiff,Nat.reduceLT,Nat.reduceMul,Nat.reduceLeDiff,reduceCtorEq,reduceIte,↓JK,cGo,rB,rvS,rN,sRRight,sSteps,hrr];rfl)):P:=h
theorem k70_ {P:Prop}(h:P:=by(simp only[push_cast,↓JP,Nat.reduceAdd,Nat.reduceEqDiff,Nat.reduceLT,Nat.reduceMul,Nat.reduceLeDiff,reduceCtorEq,reduceIte,↓JK,engP,prP,macP,pbB,fbB];rfl)):P:=h
theorem k71_ {P:Prop}(h:P:=by(simp only[push_cast,↓JP,Nat.reduceAdd,Nat.reduceEqDiff,Nat.reduceLT,Nat.reduceMul,Nat.reduceLeDiff,reduceCtorEq,reduceIte,↓JK,cGo,engP,prP,macP,pbB,fbB,rB,rvS,eEnded,eAt,eStep,xp_,hst,hkf2];rfl)):P:=h
theorem k72_ {P:Prop}(h:P:=by(simp only[push_cast,↓JP,Nat.reduceAdd,Nat.reduceEqDiff,Nat.reduceLT,Nat.reduceMul,Nat.reduceLeDiff,reduceCtorEq,reduceIte,↓JK,cGo,engP,prP,macP,pbB,fbB,rB,rvS,eEnded,eAt,eStep,xp_,hst];rfl)):P:=h
theorem k73_ {P:Prop}(h:P:=by(simp only[push_cast,↓JP,Nat.reduceAdd,Nat.reduceEqDiff,Nat.reduceLT,Nat.reduceMul,Nat.reduceLeDiff,reduceCtorEq,reduceIte,↓JK,cGo,engP,prP,macP,pbB,fbB,rB,rvS,eEnded,eAt,eStep,xp_,hst,hn190];rfl)):P:=h
theorem k74_ {P:Prop}(h:P:=by(simp only[push_cast,↓JP,Nat.reduceAdd,Nat.reduceEqDiff,Nat.reduceLT,Nat.reduceMul,Nat.reduceLeDiff,reduceCtorEq,reduceIte,↓JK,cGo,engP,prP,macP,pbB,fbB,rB,rvS,eEnded,eAt,eStep,xp_,hkf2];rfl)):P:=h
theorem k75_ {P:Prop}(h:P:=by(simp only[push_cast,↓JP,Nat.reduceAdd,Nat.reduceEqDiff,Nat.reduceLT,Nat.reduceMul,Nat.reduceLeDiff,reduceCtorEq,reduceIte,↓JK,cGo,engP,prP,macP,pbB,fbB,rB,rvS,eEnded,eAt,eStep,xp_];rfl)):P:=h
theorem k76_ {P:Prop}(h:P:=by simp only[push_cast,↓JP,Nat.reduceAdd,Nat.reduceEqDiff,Nat.reduceLT,Nat.reduceMul,Nat.reduceLeDiff,reduceCtorEq,reduceIte,resV,resV1];rfl):P:=h
theorem k77_ {P:Prop}(h:P:=by(repeat' (first|exact trivial|exact rfl|assumption|apply Stable.ite|apply And.intro|intro _ |(simp only[Stable,zd_,i64S,prS,insS,zt_,sndS];done)))):P:=h
theorem k78_ {P:Prop}(h:P:=by exact xs_ (show _∧_∧_∧_ by dsimp only;omega)):P:=h
theorem k79_ {P:Prop}(h:P:=by exact xs_ (show _∧_∧_∧_∧_ by dsimp only;omega)):P:=h
theorem k80_ {P:Prop}(h:P:=by(simp only[push_cast,↓JP,Nat.reduceAdd,Nat.reduceEqDiff,Nat.reduceLT,Nat.reduceMul,Nat.reduceLeDiff,reduceCtorEq,reduceIte];rfl)):P:=h
theorem k81_ {P:Prop}(h:P:=by(first|exact True.intro |((try simp only[JS,implies_true,forall_const,z3_,z5_,kndOf,inN]);(repeat' (first|assumption|exact True.intro|omega|apply And.intro));done))):P:=h
theorem k82_ {P:Prop}(h:P:=by(repeat' (first|exact trivial|exact rfl|assumption|apply Stable.ite|apply And.intro|intro _ |(simp only[Stable,zd_,i64S,prS,insS,zt_,sndS,stS,evS,macS,HB.stable];done)))):P:=h
theorem k83_ {P:Prop}(h:P:=by(repeat' (first|exact trivial|exact .inl rfl|exact .inr (.same _)|exact .inr .loose|exact .inr (.arr (by assumption))|apply And.intro |(exact .inr (hY _)) |(exact .inr (hY0 _)) |(rw[nilS_f hne];exact .inr (by simp only[mSnd_len];exact .same _)) |(exact .inr (by rw[hm1];exact .same _))))):P:=h
theorem k84_ {P:Prop}(h:P:=by(repeat' (first|exact trivial|exact rfl|assumption|apply Stable.ite|apply And.intro|intro _ |(simp only[Stable,zd_,i64S,prS,insS,zt_,sndS,stS,evS,macS,cB,sB,HB.stable];done)))):P:=h
theorem k85_ {P:Prop}(h:P:=by(simp only[push_cast,↓JP,Nat.reduceAdd,Nat.reduceEqDiff,Nat.reduceLT,Nat.reduceMul,Nat.reduceLeDiff,reduceCtorEq,reduceIte,↓JK,JM,JE,cM18,sCl64,inR,inN,Nat.sub_zero,hm2,hm2',hlt2];rfl)):P:=h
theorem k86_ {P:Prop}(h:P:=by(first|exact True.intro |((try simp only[JS,implies_true,forall_const,z3_,z5_,kndOf,inR,inN]);(first|first|omega|exact⟨fun q _=>rfl,hx,hmx⟩|exact⟨rfl,fun q _=>rfl,hx,hmx⟩ |(repeat' (first|assumption|exact True.intro|omega|apply And.intro)));done))):P:=h
theorem k87_ {P:Prop}(h:P:=by(first|exact True.intro |((try simp only[JS,implies_true,forall_const,z3_,z5_,kndOf,inR,inN]);(first|first|omega|exact⟨hP,hn,hc⟩|exact⟨hP,hn,hc,hb⟩ |(repeat' (first|assumption|exact True.intro|omega|apply And.intro)));done))):P:=h
theorem k88_ {P:Prop}(h:P:=by(repeat' (first|exact trivial|exact rfl|assumption|apply Stable.ite|exact nilOr_st rfl rfl|apply And.intro|intro _ |(simp only[Stable,zd_,i64S,prS,insS,zt_,sndS,stS,evS,macS,mB,cB,sB,eB,prO,prR,pbB,fbB,HB.stable];done)))):P:=h
theorem k89_ {P:Prop}(h:P:=by(repeat' (first|exact trivial|exact .inl rfl|exact .inr (.same _)|exact .inr .loose|exact .inr (.arr (by assumption))|apply And.intro |(exact .inr (hA1 _ (fun q _=>rfl) _)) |(exact .inr (hA0 _ (fun q _=>rfl) _)) |(refine .inr (less_nil ?_ ?_ ?_)<;>first|rfl|simp)))):P:=h
theorem k90_ {P:Prop}(h:P:=by(simp only[push_cast,↓JP,Nat.reduceAdd,Nat.reduceEqDiff,Nat.reduceLT,Nat.reduceMul,Nat.reduceLeDiff,reduceCtorEq,reduceIte,↓JK,cRun,JM,engP,prP,macP,ym_,memN,eB,prO,pbB,fbB,eEnded,eAt,eStep,xp_,hst,hkf2];rfl)):P:=h
theorem k91_ {P:Prop}(h:P:=by(simp only[push_cast,↓JP,Nat.reduceAdd,Nat.reduceEqDiff,Nat.reduceLT,Nat.reduceMul,Nat.reduceLeDiff,reduceCtorEq,reduceIte,↓JK,cRun,JM,engP,prP,macP,ym_,memN,eB,prO,pbB,fbB,eEnded,eAt,eStep,xp_,hst];rfl)):P:=h
theorem k92_ {P:Prop}(h:P:=by(simp only[push_cast,↓JP,Nat.reduceAdd,Nat.reduceEqDiff,Nat.reduceLT,Nat.reduceMul,Nat.reduceLeDiff,reduceCtorEq,reduceIte,↓JK,cRun,JM,engP,prP,macP,ym_,memN,eB,prO,pbB,fbB,eEnded,eAt,eStep,xp_,hst,hn190,Nat.sub_zero];rfl)):P:=h
theorem k93_ {P:Prop}(h:P:=by(simp only[push_cast,↓JP,Nat.reduceAdd,Nat.reduceEqDiff,Nat.reduceLT,Nat.reduceMul,Nat.reduceLeDiff,reduceCtorEq,reduceIte,↓JK,cRun,JM,engP,prP,macP,ym_,memN,eB,prO,pbB,fbB,eEnded,eAt,eStep,xp_,hkf2];rfl)):P:=h
theorem k94_ {P:Prop}(h:P:=by(simp only[push_cast,↓JP,Nat.reduceAdd,Nat.reduceEqDiff,Nat.reduceLT,Nat.reduceMul,Nat.reduceLeDiff,reduceCtorEq,reduceIte,↓JK,cRun,JM,engP,prP,macP,ym_,memN,eB,prO,pbB,fbB,eEnded,eAt,eStep,xp_];rfl)):P:=h
theorem k95_ {P:Prop}(h:P:=by(first|exact True.intro |((try simp only[JS,implies_true,forall_const,z3_,z5_,kndOf]);(first|exact⟨fun q _=>rfl,hx,hl⟩ |(repeat' (first|assumption|exact True.intro|omega|apply And.intro)));done))):P:=h
theorem k96_ {P:Prop}(h:P:=by simp only[push_cast,↓JP,Nat.reduceAdd,Nat.reduceEqDiff,Nat.reduceLT,Nat.reduceMul,Nat.reduceLeDiff,reduceCtorEq,reduceIte,↓JK,↓JF,resV,resV1];rfl):P:=h
theorem zz_ {P:Prop}(h:P:=by(repeat' (first|exact trivial|exact rfl|assumption|apply Stable.ite|apply And.intro|intro _ |(simp only[Stable,zd_,i64S,prS,insS,zt_,sndS,kS,kaS,ftS,ftsS];done)))):P:=h
theorem k98_ {P:Prop}(h:P:=by(first|exact True.intro |((try simp only[JS,implies_true,forall_const,z3_,z5_,kndOf,inN,inR]);(repeat' (first|assumption|exact True.intro|omega|apply And.intro));done))):P:=h
theorem k99_ {P:Prop}(h:P:=by(simp only[push_cast,↓JP,Nat.reduceAdd,Nat.reduceEqDiff,Nat.reduceLT,Nat.reduceMul,Nat.reduceLeDiff,reduceCtorEq,reduceIte,↓JK,↓JF,cRes,sDiv,sApply,h3,h4,h32,hdv,hb1,hc1,↓kn_eqZ,inN,inR];rfl)):P:=h
theorem k100_ {P:Prop}(h:P:=by(simp only[push_cast,↓JP,Nat.reduceAdd,Nat.reduceEqDiff,Nat.reduceLT,Nat.reduceMul,Nat.reduceLeDiff,reduceCtorEq,reduceIte,↓JK,↓JF,cRes,sDiv,sApply,h3,h4,h32,hdv,hb1,hc1,↓kn_eqZ,inN,inR,hn0];rfl)):P:=h
theorem k101_ {P:Prop}(h:P:=by(simp only[push_cast,↓JP,Nat.reduceAdd,Nat.reduceEqDiff,Nat.reduceLT,Nat.reduceMul,Nat.reduceLeDiff,reduceCtorEq,reduceIte,↓JK,↓JF];rfl)):P:=h
theorem k102_ {P:Prop}(h:P:=by simp only[push_cast,↓JP,Nat.reduceAdd,Nat.reduceEqDiff,Nat.reduceLT,Nat.reduceMul,Nat.reduceLeDiff,reduceCtorEq,reduceIte,↓JK,↓JF];rfl):P:=h
theorem k103_ {P:Prop}(h:P:=by exact⟨⟨hkl,scan_next hsc hre hX hs0⟩,by omega⟩):P:=h
theorem k104_ {P:Prop}(h:P:=by simp only[push_cast,↓JP,Nat.reduceAdd,Nat.reduceEqDiff,Nat.reduceLT,Nat.reduceMul,Nat.reduceLeDiff,reduceCtorEq,reduceIte,↓JK,↓JF,xa_,List.drop_zero,List.drop_succ_cons,cFa,sGoes,z8_,xf_,sMeet,sHands,hX,inN,inR,ftsS,↓ye_,↓z7_,ft_eq,hrT,hsm,hTl];rfl):P:=h
theorem k105_ {P:Prop}(h:P:=by(focus (first|exact True.intro |((try simp only[JS,implies_true,forall_const,z3_,z5_,kndOf,inN,inR]);(repeat' (first|assumption|exact True.intro|omega|apply And.intro));done)))):P:=h
theorem k106_ {P:Prop}(h:P:=by first|rfl |(simp only[push_cast,↓JP,Nat.reduceAdd,Nat.reduceEqDiff,Nat.reduceLT,Nat.reduceMul,Nat.reduceLeDiff,reduceCtorEq,reduceIte,↓JK,↓JF,xa_,List.drop_zero,List.drop_succ_cons,cFa,sGoes,z8_,xf_,sMeet,sHands,hX,inN,inR,ftsS,↓ye_,↓z7_,ft_eq,hrT,hsm,hTl];done)):P:=h
theorem k107_ {P:Prop}(h:P:=by exact⟨⟨hlt.2.trans hFl,iter_next hs1 hlt.1 hm hFm⟩,hlt.1⟩):P:=h
theorem k108_ {P:Prop}(h:P:=by simp only[push_cast,↓JP,Nat.reduceAdd,Nat.reduceEqDiff,Nat.reduceLT,Nat.reduceMul,Nat.reduceLeDiff,reduceCtorEq,reduceIte,↓JK,↓JF,xa_,List.drop_zero,List.drop_succ_cons,cFa,sGoes,z8_,xf_,sMeet,sHands,hX,inN,inR,ftsS,↓ye_,↓z7_,ft_eq,hTn,Int.toNat_natCast,hrT,hsm,hTl];rfl):P:=h
theorem k109_ {P:Prop}(h:P:=by first|rfl |(simp only[push_cast,↓JP,Nat.reduceAdd,Nat.reduceEqDiff,Nat.reduceLT,Nat.reduceMul,Nat.reduceLeDiff,reduceCtorEq,reduceIte,↓JK,↓JF,xa_,List.drop_zero,List.drop_succ_cons,cFa,sGoes,z8_,xf_,sMeet,sHands,hX,inN,inR,ftsS,↓ye_,↓z7_,ft_eq,hTn,Int.toNat_natCast,hrT,hsm,hTl];done)):P:=h
theorem k110_ {P:Prop}(h:P:=by(simp only[push_cast,↓JP,Nat.reduceAdd,Nat.reduceEqDiff,Nat.reduceLT,Nat.reduceMul,Nat.reduceLeDiff,reduceCtorEq,reduceIte,↓JK,↓JF,cFa,sGoes,z8_,xf_,sMeet,sHands,hX,inN,inR,ftsS,↓ye_,↓z7_,ft_eq,h,hG10,hT10,hk1,hk0];rfl)):P:=h
theorem k111_ {P:Prop}(h:P:=by(simp only[push_cast,↓JP,Nat.reduceAdd,Nat.reduceEqDiff,Nat.reduceLT,Nat.reduceMul,Nat.reduceLeDiff,reduceCtorEq,reduceIte,↓JK,↓JF,cFa,sGoes,z8_,xf_,sMeet,sHands,hX,inN,inR,ftsS,↓ye_,↓z7_,ft_eq,h,hG11,hT11,hk1,hk0];rfl)):P:=h
theorem k112_ {P:Prop}(h:P:=by(simp only[push_cast,↓JP,Nat.reduceAdd,Nat.reduceEqDiff,Nat.reduceLT,Nat.reduceMul,Nat.reduceLeDiff,reduceCtorEq,reduceIte,↓JK,↓JF,cFa,sGoes,z8_,xf_,sMeet,sHands,hX,inN,inR,ftsS,↓ye_,↓z7_,ft_eq,n3,n4,n5,n7,n6,n8,n10,n11,h32,hG12,hT12,hr2];rfl)):P:=h
theorem k113_ {P:Prop}(h:P:=by(simp only[push_cast,↓JP,Nat.reduceAdd,Nat.reduceEqDiff,Nat.reduceLT,Nat.reduceMul,Nat.reduceLeDiff,reduceCtorEq,reduceIte,↓JK,↓JF,inN];rfl)):P:=h
theorem k114_ {P:Prop}(h:P:=by(simp only[push_cast,↓JP,Nat.reduceAdd,Nat.reduceEqDiff,Nat.reduceLT,Nat.reduceMul,Nat.reduceLeDiff,reduceCtorEq,reduceIte,↓JK,↓JF,cFa,sGoes,z8_,xf_,sMeet,sHands,hX,inN,inR,ftsS,↓ye_,↓z7_,ft_eq];rfl)):P:=h
theorem k115_ {P:Prop}(h:P:=by(first|exact True.intro |((simp only[true_and,and_true,and_self,Nat.zero_add,↓ye_,↓z7_];(repeat' (first|assumption|exact True.intro|omega|apply And.intro)));done) |((try simp only[JS,implies_true,forall_const,z3_,z5_,kndOf,inN,inR]);(repeat' (first|assumption|exact True.intro|omega|apply And.intro));done))):P:=h
theorem k116_ {P:Prop}(h:P:=by(simp only[push_cast,↓JP,Nat.reduceAdd,Nat.reduceEqDiff,Nat.reduceLT,Nat.reduceMul,Nat.reduceLeDiff,reduceCtorEq,reduceIte,↓JK,↓JF,cFa,sGoes,z8_,xf_,sMeet,sHands,hX,inN,inR,ftsS,↓ye_,↓z7_,ft_eq,hrT,hsm,hTl];rfl)):P:=h
theorem k117_ {P:Prop}(h:P:=by(simp only[push_cast,↓JP,Nat.reduceAdd,Nat.reduceEqDiff,Nat.reduceLT,Nat.reduceMul,Nat.reduceLeDiff,reduceCtorEq,reduceIte,↓JK,↓JF,cFa,sGoes,z8_,xf_,sMeet,sHands,hX,inN,inR,ftsS,↓ye_,↓z7_,ft_eq,hTn,Int.toNat_natCast,hrT,hsm,hTl];rfl)):P:=h
theorem k118_ {P:Prop}(h:P:=by(simp only[push_cast,↓JP,Nat.reduceAdd,Nat.reduceEqDiff,Nat.reduceLT,Nat.reduceMul,Nat.reduceLeDiff,reduceCtorEq,reduceIte,↓JK,↓JF,inN,inR,h0,h1,h2,h3,h4,h5];rfl)):P:=h
theorem k119_ {P:Prop}(h:P:=by(simp only[push_cast,↓JP,Nat.reduceAdd,Nat.reduceEqDiff,Nat.reduceLT,Nat.reduceMul,Nat.reduceLeDiff,reduceCtorEq,reduceIte,↓JK,↓JF,cFits,sCheck,sRight17,ls_prS,ls_prS',ls_prS2,h1,h2];rfl)):P:=h
theorem k120_ {P:Prop}(h:P:=by(simp only[push_cast,↓JP,Nat.reduceAdd,Nat.reduceEqDiff,Nat.reduceLT,Nat.reduceMul,Nat.reduceLeDiff,reduceCtorEq,reduceIte,↓JK,↓JF,cWhy,sDiv,↓kn_eqZ,inN,inR,hre,h5,q1,q2,q3,q4];rfl)):P:=h
theorem k121_ {P:Prop}(h:P:=by(simp only[push_cast,↓JP,Nat.reduceAdd,Nat.reduceEqDiff,Nat.reduceLT,Nat.reduceMul,Nat.reduceLeDiff,reduceCtorEq,reduceIte,↓JK,↓JF,cWhy,sDiv,↓kn_eqZ,inN,inR,hre,h6,q1,q2,q3,q4];rfl)):P:=h
theorem k122_ {P:Prop}(h:P:=by(simp only[push_cast,↓JP,Nat.reduceAdd,Nat.reduceEqDiff,Nat.reduceLT,Nat.reduceMul,Nat.reduceLeDiff,reduceCtorEq,reduceIte,↓JK,↓JF,cWhy,sDiv,↓kn_eqZ,inN,inR,hre,h8,hd,q1,q2,q3];rfl)):P:=h
theorem k123_ {P:Prop}(h:P:=by(simp only[push_cast,↓JP,Nat.reduceAdd,Nat.reduceEqDiff,Nat.reduceLT,Nat.reduceMul,Nat.reduceLeDiff,reduceCtorEq,reduceIte,↓JK,↓JF,cWhy,sDiv,↓kn_eqZ,inN,inR,hre,h7,hd,q2,q3];rfl)):P:=h
theorem k124_ {P:Prop}(h:P:=by(simp only[push_cast,↓JP,Nat.reduceAdd,Nat.reduceEqDiff,Nat.reduceLT,Nat.reduceMul,Nat.reduceLeDiff,reduceCtorEq,reduceIte,↓JK,↓JF,cWhy,sDiv,↓kn_eqZ,inN,inR,hre,h2,h5,h6,h8,h7,hd,q1,q2];rfl)):P:=h
theorem k125_ {P:Prop}(h:P:=by simp only[mdN,yl_,q];exact emit_go hg):P:=h
theorem k126_ {P:Prop}(h:P:=by rw[show (mdS o s x).regs=s.regs by simp[mdS,q]];exact hf):P:=h
theorem k127_ {P:Prop}(h:P:=by simp only[push_cast,↓JP,Nat.reduceAdd,Nat.reduceEqDiff,Nat.reduceLT,Nat.reduceMul,Nat.reduceLeDiff,reduceCtorEq,reduceIte,↓JK,xa_,List.drop_zero,List.drop_succ_cons,cEd,sGoes,z8_,iOf,hX,hT,hG,Int.reduceNeg,hle,hgt];rfl):P:=h
theorem k128_ {P:Prop}(h:P:=by first|rfl |(simp only[push_cast,↓JP,Nat.reduceAdd,Nat.reduceEqDiff,Nat.reduceLT,Nat.reduceMul,Nat.reduceLeDiff,reduceCtorEq,reduceIte,↓JK,xa_,List.drop_zero,List.drop_succ_cons,cEd,sGoes,z8_,iOf,hX,hT,hG,Int.reduceNeg,hle,hgt];done)):P:=h
theorem k129_ {P:Prop}(h:P:=by(repeat' (first|exact trivial|exact .inl rfl|exact .inr (.same _)|exact .inr .loose|exact .inr (.arr (by assumption))|apply And.intro|exact .inr (.arr fun q hq=>by rcases (show q=0∨q=1 by omega)with rfl|rfl<;>rfl)))):P:=h
theorem k130_ {P:Prop}(h:P:=by(repeat' (first|exact trivial|exact .inl rfl|exact .inr (.same _)|exact .inr .loose|exact .inr (.arr (by assumption))|apply And.intro|exact .inr (.arr fun q hq=>(by have h0:q=0:=(by omega);subst h0;rfl))))):P:=h
theorem k131_ {P:Prop}(h:P:=by simp only[push_cast,↓JP,Nat.reduceAdd,Nat.reduceEqDiff,Nat.reduceLT,Nat.reduceMul,Nat.reduceLeDiff,reduceCtorEq,reduceIte,↓JK,xa_,List.drop_zero,List.drop_succ_cons,cEd,sGoes,z8_,iOf,hX,hT,hG,Int.reduceNeg,hle,hgt,hg];rfl):P:=h
theorem k132_ {P:Prop}(h:P:=by first|rfl |(simp only[push_cast,↓JP,Nat.reduceAdd,Nat.reduceEqDiff,Nat.reduceLT,Nat.reduceMul,Nat.reduceLeDiff,reduceCtorEq,reduceIte,↓JK,xa_,List.drop_zero,List.drop_succ_cons,cEd,sGoes,z8_,iOf,hX,hT,hG,Int.reduceNeg,hle,hgt,hg];done)):P:=h
theorem k133_ {P:Prop}(h:P:=by simp only[push_cast,↓JP,Nat.reduceAdd,Nat.reduceEqDiff,Nat.reduceLT,Nat.reduceMul,Nat.reduceLeDiff,reduceCtorEq,reduceIte,↓JK,xa_,List.drop_zero,List.drop_succ_cons,cEd,sGoes,z8_,iOf,hX,hT,hG,Int.reduceNeg,hT];rfl):P:=h
theorem k134_ {P:Prop}(h:P:=by first|rfl |(simp only[push_cast,↓JP,Nat.reduceAdd,Nat.reduceEqDiff,Nat.reduceLT,Nat.reduceMul,Nat.reduceLeDiff,reduceCtorEq,reduceIte,↓JK,xa_,List.drop_zero,List.drop_succ_cons,cEd,sGoes,z8_,iOf,hX,hT,hG,Int.reduceNeg,hT];done)):P:=h
theorem k135_ {P:Prop}(h:P:=by(repeat' (first|exact trivial|exact .inl rfl|exact .inr (.same _)|exact .inr .loose|exact .inr (.arr (by assumption))|apply And.intro|exact .inr (.arr fun q hq=>absurd hq (Nat.not_lt_zero q))))):P:=h
theorem k136_ {P:Prop}(h:P:=by(simp only[push_cast,↓JP,Nat.reduceAdd,Nat.reduceEqDiff,Nat.reduceLT,Nat.reduceMul,Nat.reduceLeDiff,reduceCtorEq,reduceIte,↓JK];rfl)):P:=h
theorem k137_ {P:Prop}(h:P:=by(simp only[push_cast,↓JP,Nat.reduceAdd,Nat.reduceEqDiff,Nat.reduceLT,Nat.reduceMul,Nat.reduceLeDiff,reduceCtorEq,reduceIte,↓JK,cEd,sGoes,z8_,iOf,hX,hT,hG,Int.reduceNeg,hle,hgt];rfl)):P:=h
theorem k138_ {P:Prop}(h:P:=by(simp only[push_cast,↓JP,Nat.reduceAdd,Nat.reduceEqDiff,Nat.reduceLT,Nat.reduceMul,Nat.reduceLeDiff,reduceCtorEq,reduceIte,↓JK,cEd,sGoes,z8_,iOf,hX,hT,hG,Int.reduceNeg,hle,hgt,inN,inR];rfl)):P:=h
theorem k139_ {P:Prop}(h:P:=by(simp only[push_cast,↓JP,Nat.reduceAdd,Nat.reduceEqDiff,Nat.reduceLT,Nat.reduceMul,Nat.reduceLeDiff,reduceCtorEq,reduceIte,↓JK,cEd,sGoes,z8_,iOf,hX,hT,hG,Int.reduceNeg,hle,hgt,hg];rfl)):P:=h
theorem k140_ {P:Prop}(h:P:=by(simp only[push_cast,↓JP,Nat.reduceAdd,Nat.reduceEqDiff,Nat.reduceLT,Nat.reduceMul,Nat.reduceLeDiff,reduceCtorEq,reduceIte,↓JK,cEd,sGoes,z8_,iOf,hX,hT,hG,Int.reduceNeg,hle,hgt,hg,inN,inR];rfl)):P:=h
theorem k141_ {P:Prop}(h:P:=by(simp only[push_cast,↓JP,Nat.reduceAdd,Nat.reduceEqDiff,Nat.reduceLT,Nat.reduceMul,Nat.reduceLeDiff,reduceCtorEq,reduceIte,↓JK,cEd,sGoes,z8_,iOf,hX,hT,hG,Int.reduceNeg,hT];rfl)):P:=h
theorem k142_ {P:Prop}(h:P:=by(repeat' (first|exact trivial|exact rfl|assumption|apply Stable.ite|exact nilOr_st rfl rfl|apply And.intro|intro _ |(simp only[Stable,zd_,i64S,prS,insS,zt_,sndS,kS,kaS,ftS,ftsS];done)))):P:=h
theorem k143_ {P:Prop}(h:P:=by simp only[push_cast,↓JP,Nat.reduceAdd,Nat.reduceEqDiff,Nat.reduceLT,Nat.reduceMul,Nat.reduceLeDiff,reduceCtorEq,reduceIte,↓JK,↓JF,xa_,List.drop_zero,List.drop_succ_cons,cWys,inN,he];rfl):P:=h
theorem k144_ {P:Prop}(h:P:=by(focus (first|exact True.intro |((try simp only[JS,implies_true,forall_const,z3_,z5_,kndOf,inN]);(repeat' (first|assumption|exact True.intro|omega|apply And.intro));done)))):P:=h
theorem k145_ {P:Prop}(h:P:=by first|rfl |(simp only[push_cast,↓JP,Nat.reduceAdd,Nat.reduceEqDiff,Nat.reduceLT,Nat.reduceMul,Nat.reduceLeDiff,reduceCtorEq,reduceIte,↓JK,↓JF,xa_,List.drop_zero,List.drop_succ_cons,cWys,inN,he];done)):P:=h
theorem k146_ {P:Prop}(h:P:=by(repeat' (first|exact trivial|exact .inl rfl|exact .inr (.same _)|exact .inr .loose|exact .inr (.arr (by assumption))|apply And.intro |(rw[e];exact .inr (hA1 _ (fun q _=>rfl) _)) |(rw[e];refine .inr (less_nil ?_ ?_ ?_)<;>first|rfl|simp)))):P:=h
theorem k147_ {P:Prop}(h:P:=by(simp only[push_cast,↓JP,Nat.reduceAdd,Nat.reduceEqDiff,Nat.reduceLT,Nat.reduceMul,Nat.reduceLeDiff,reduceCtorEq,reduceIte,↓JK,↓JF,cWys,sWhyL,ftsS,hX,inN,hkl,he];rfl)):P:=h
theorem k148_ {P:Prop}(h:P:=by(simp only[push_cast,↓JP,Nat.reduceAdd,Nat.reduceEqDiff,Nat.reduceLT,Nat.reduceMul,Nat.reduceLeDiff,reduceCtorEq,reduceIte,↓JK,↓JF,cWys,inN,he];rfl)):P:=h
theorem k149_ {P:Prop}(h:P:=by(simp only[push_cast,↓JP,Nat.reduceAdd,Nat.reduceEqDiff,Nat.reduceLT,Nat.reduceMul,Nat.reduceLeDiff,reduceCtorEq,reduceIte,↓JK,↓JF,cWys,inN,he,Nat.sub_zero];rfl)):P:=h
theorem k150_ {P:Prop}(h:P:=by(simp only[push_cast,↓JP,Nat.reduceAdd,Nat.reduceEqDiff,Nat.reduceLT,Nat.reduceMul,Nat.reduceLeDiff,reduceCtorEq,reduceIte,↓JK,↓JF,cWys,inN];rfl)):P:=h
theorem k151_ {P:Prop}(h:P:=by(first|exact True.intro |((try simp only[JS,implies_true,forall_const,z3_,z5_,kndOf]);(first|first|exact⟨fun q _=>rfl,hx,by omega⟩|exact⟨by omega,by omega,by omega,fun q _=>rfl,hxk⟩ |(repeat' (first|assumption|exact True.intro|omega|apply And.intro)));done))):P:=h
theorem k152_ {P:Prop}(h:P:=by(repeat' (first|exact trivial|exact rfl|assumption|apply Stable.ite|apply And.intro|intro _ |(simp only[Stable,zd_,i64S,prS,insS,zt_,sndS,stS,evS,macS,cB,sB,kS,kaS,ftS,ftsS,HB.stable];done)))):P:=h
theorem k153_ {P:Prop}(h:P:=by(first|exact True.intro |((try simp only[JS,implies_true,forall_const,z3_,z5_,kndOf,capB]);(repeat' (first|exact True.intro|assumption|omega|apply And.intro|rfl|decide|intro _));done) |((try simp only[JS,implies_true,forall_const,z3_,z5_,kndOf]);(repeat' (first|assumption|exact True.intro|omega|apply And.intro));done))):P:=h
end Go.Proofs.Ytjliakjbdcplcaa.Vm
end
section
namespace Go.Proofs.Ytjliakjbdcplcaa
open Go.RowKit
structure Ins where
 op:Int
 a:Int
 b:Int
 c:Int
 n:Int
deriving DecidableEq
def Ins.cells (i:Ins):List Value:=[.int .u8 i.op,.int .u8 i.a,.int .u8 i.b,.int .u8 i.c,.int .i64 i.n]
def Ins.v (i:Ins):Value:=.agg #[.int .u8 i.op,.int .u8 i.a,.int .u8 i.b,.int .u8 i.c,.int .i64 i.n]
structure Ins.ok (i:Ins):Prop where
 op0:0≤i.op
 op1:i.op≤255
 a0:0≤i.a
 a1:i.a≤255
 b0:0≤i.b
 b1:i.b≤255
 c0:0≤i.c
 c1:i.c≤255
 n0:-9223372036854775808≤i.n
 n1:i.n≤9223372036854775807
def xh_ (op:Int):Nat:=
 if 32 < op∧op≤49 then 1
 else if op=1∨op=2 then 2
 else if op=3 then 3
 else if 4≤op∧op≤7 then 4
 else if op=8 then 5
 else if op=9 then 6
 else if op=10∨op=11 then 7
 else 0
def formS:Nat→ByteArray
 | 1=>⟨#[114,114,114]⟩
 | 3=>⟨#[114,110]⟩
 | 4=>⟨#[114,114]⟩
 | 5=>⟨#[114,114,112]⟩
 | 6=>⟨#[116]⟩
 | 7=>⟨#[114,116]⟩
 | _=>⟨#[]⟩
def xt_ (k:Nat)(a b c n:Int):Prop:=
 match k with
 | 1=>a < 8∧b < 8∧c < 8∧n=0
 | 2=>a=0∧b=0∧c=0∧n=0
 | 3=>a < 8∧b=0∧c=0
 | 4=>a < 8∧b < 8∧c=0∧n=0
 | 5=>a < 8∧b < 8∧c=0∧0≤n∧n < 16
 | 6=>a=0∧b=0∧c=0∧0≤n∧n < 256
 | 7=>a < 8∧b=0∧c=0∧0≤n∧n < 256
 | _=>False
instance (k:Nat)(a b c n:Int):Decidable (xt_ k a b c n):=by
 unfold xt_;split<;>infer_instance
def oneK (k:Nat)(a b c n:Int):Int:=if xt_ k a b c n then 0 else 141
theorem xs_ {k:Nat}{a b c n:Int}(h:xt_ k a b c n):oneK k a b c n=0:=if_pos h
theorem yv_ {k:Nat}{a b c n:Int}(h:¬xt_ k a b c n):oneK k a b c n=141:=if_neg h
theorem ret_i64 {a b:Int}(h:a=b):Ending.returned (.int .i64 a)=.returned (.int .i64 b):=by rw[h]
def oneE (i:Ins):Int:=if xh_ i.op=0 then 140 else oneK (xh_ i.op) i.a i.b i.c i.n
section
variable {w1 W W':World}
theorem preD:Below w1.heap.size w1 w1.drew∧∀b o,b < w1.heap.size→w1.drew.cell? ⟨b,o,none⟩=w1.cell? ⟨b,o,none⟩:=⟨(Below.refl _ _).drew,fun _ _ _=>rfl⟩
theorem preR:Below w1.heap.size w1 w1∧∀b o,b < w1.heap.size→w1.cell? ⟨b,o,none⟩=w1.cell? ⟨b,o,none⟩:=⟨Below.refl _ _,fun _ _ _=>rfl⟩
theorem preE (h:Below w1.heap.size w1 W∧∀b o,b < w1.heap.size→W.cell? ⟨b,o,none⟩=w1.cell? ⟨b,o,none⟩):Below w1.heap.size w1 W.drew∧∀b o,b < w1.heap.size→W.drew.cell? ⟨b,o,none⟩=w1.cell? ⟨b,o,none⟩:=⟨h.1.drew,h.2⟩
theorem preOf (h:Below w1.heap.size w1 W):Below w1.heap.size w1 W∧∀b o,b < w1.heap.size→W.cell? ⟨b,o,none⟩=w1.cell? ⟨b,o,none⟩:=⟨h,fun b o hb=>h.cell (p:=⟨b,o,none⟩) hb⟩
theorem preA (h:Below w1.heap.size w1 W∧∀b o,b < w1.heap.size→W.cell? ⟨b,o,none⟩=w1.cell? ⟨b,o,none⟩)(x:Obj):Below w1.heap.size w1 (W.alloc x)∧∀b o,b < w1.heap.size→(W.alloc x).cell? ⟨b,o,none⟩=w1.cell? ⟨b,o,none⟩:=preOf (h.1.alloc h.1.size x)
theorem preS (h:Below w1.heap.size w1 W∧∀b o,b < w1.heap.size→W.cell? ⟨b,o,none⟩=w1.cell? ⟨b,o,none⟩){q:Addr}(hq:w1.heap.size≤q.block)(v:Value):Below w1.heap.size w1 (W.setCell q v)∧∀b o,b < w1.heap.size→(W.setCell q v).cell? ⟨b,o,none⟩=w1.cell? ⟨b,o,none⟩:=preOf (h.1.setCell hq v)
theorem preB (h:Below w1.heap.size w1 W∧∀b o,b < w1.heap.size→W.cell? ⟨b,o,none⟩=w1.cell? ⟨b,o,none⟩)(hb:Below W.heap.size W W'):Below w1.heap.size w1 W'∧∀b o,b < w1.heap.size→W'.cell? ⟨b,o,none⟩=w1.cell? ⟨b,o,none⟩:=preOf (h.1.trans (hb.mono h.1.size))
end
theorem bcell {W w1:World}(hb:Below W.heap.size W w1):(∀b o,b < W.heap.size→w1.cell? ⟨b,o,none⟩=W.cell? ⟨b,o,none⟩)∧(∀b o,b < W.heap.size→w1.frozen? ⟨b,o,none⟩=W.frozen? ⟨b,o,none⟩):=
 ⟨fun b o h=>hb.cell (p:=⟨b,o,none⟩) h,fun b o h=>hb.frozen (p:=⟨b,o,none⟩) h⟩
section
variable {P:Program}
theorem iter_setCell (W:World)(s:ByteArray)(p g i:Nat)(v:Value)(h:g < W.heap.size):(W.iter s p).setCell ⟨g,i,none⟩ v=(W.setCell ⟨g,i,none⟩ v).iter s p:=World.setCell_alloc_past _ _ _ _ h
theorem iter_cell (W:World)(s:ByteArray)(p g i:Nat)(h:g < W.heap.size):(W.iter s p).cell? ⟨g,i,none⟩=W.cell? ⟨g,i,none⟩:=World.cell?_alloc_past _ _ _ h
theorem iter_frozen (W:World)(s:ByteArray)(p g i:Nat)(h:g < W.heap.size):(W.iter s p).frozen? ⟨g,i,none⟩=W.frozen? ⟨g,i,none⟩:=World.frozen?_alloc_past _ _ _ h
theorem next_at (W:World)(s:ByteArray)(p q n:Nat)(z:Int)(ty:TypeId)(hn:n=W.heap.size)(h:p < s.size)(ha:(s[p]'h).toNat < 128)(hz:((s[p]'h).toNat:Int)=z)(hq:q=p+1) :
  (Instr.next (.pointer (some ⟨n,0,none⟩)) true ty).run P (W.iter s p)=.ok (.tuple #[.bool true,.int .i64 p,.int .i32 z]) (W.iter s q):=by
 subst hn;subst hz;subst hq;exact run_next_ascii W s p ty h ha
theorem next_end (W:World)(s:ByteArray)(p n:Nat)(ty:TypeId)(hn:n=W.heap.size)(h:¬p < s.size) :
  (Instr.next (.pointer (some ⟨n,0,none⟩)) true ty).run P (W.iter s p)=.ok (.tuple #[.bool false]) (W.iter s p):=by
 subst hn;exact run_next_end W s p ty h
end
theorem ite_okB (x a:Int)(r:Bool)(w:World):(if x=a then Result.ok r w else Result.ok false w)=Result.ok (x == a && r) w:=by
 by_cases h:x=a<;>simp[h]
theorem below_setRow {B:Nat}{a w:World}(h:Below B a w){g:Nat}(hg:B≤g)(cs:Array Value):Below B a (w.setRow g cs):=
 h.trans ⟨rfl,rfl,rfl,by simp,fun k hk=>by
  simp only[World.setRow,Array.getElem?_modify]
  rw[if_neg (by omega)]⟩
end Go.Proofs.Ytjliakjbdcplcaa
end
section
namespace Go.Proofs.Ytjliakjbdcplcaa
open Go.ChangeShapes Go.WideShapes Go.ChangeAt Go.RowKit
theorem ownKnob_:ownKnob Try.prog.godebug=none:=by kernel_rfl
theorem laid_:laidOutB Try.prog=true:=by kernel_rfl
theorem again_all {H:Type}{enc:TypeId×Value→H}{W W':World}{sp:Nat→Bool}:∀{ts:List TypeId} {vs:List Value} {ds:List (DataW H)} {ps:List MemPlace},(∀t∈ts,Try.prog.readableRec t=true∧t < Try.prog.types.size) →
  DataW.TrodAll enc Try.prog W 0 (fun _=>true) true ts vs ds ps→(∀p∈ps,W.sameAt W' p)→(∀p∈ps,sp p.block=true)→DataW.TrodAll enc Try.prog W' 0 sp true ts vs ds ps
 | [],vs,ds,ps,_,h,_,_=>by
  obtain⟨rfl,rfl,rfl⟩:=trodAll_nil h
  exact trodAll_mk0
 | t::ts,vs,ds,ps,ht,h,hsame,hs=>by
  obtain⟨v,vs',d,ds',p,p',rfl,rfl,rfl,h1,h2⟩:=trodAll_cons h
  have htt:=ht t (.head _)
  exact trodAll_cons_mk (WideElems.Trod_stays laid_ htt.1 htt.2 h1 (fun q hq=>hsame q (List.mem_append_left _ hq)) (fun q hq=>hs q (List.mem_append_left _ hq)))
   (again_all (fun u hu=>ht u (.tail _ hu)) h2 (fun q hq=>hsame q (List.mem_append_right _ hq)) (fun q hq=>hs q (List.mem_append_right _ hq)))
theorem law_post {H:Type}{enc:TypeId×Value→H}{f:Func}{s:ChangeSpec}{W W':World}{args:Array Value}{ds gs:List (DataW H)}{before:List MemPlace}
  (hW:DataW.Whole enc Try.prog f.params.toList s.vars false W args.toList ds gs before) (hv:s.vars=[]) (hr:f.resultTypes = #[4])
  (hts:∀t∈f.params.toList,Try.prog.readableRec t=true∧t < Try.prog.types.size)
  (hfn:(s.fn H (ds++gs)).results=[.lit (.bool true)]∧(s.fn H (ds++gs)).args=ds∧(s.fn H (ds++gs)).vars=[]) (hb:Below W.heap.size W W') :
  s.post enc Try.prog f false true false false W args (.bool true) W':=by
 have hlt:∀x∈before,x.block < W.heap.size:=fun x hx=>hW.lt x hx
 have hW':=hW
 obtain⟨p,q,hA,hV,rfl,hfz,hnd⟩:=hW
 rw[hv]at hV
 obtain⟨rfl,rfl⟩:=trodVars_none hV
 have hsame:∀x∈p,W.sameAt W' x:=fun x hx=>by
  have hl:=hlt x (List.mem_append_left _ hx)
  cases x with
  | cell b off=>exact hb.cell (p:=⟨b,off,none⟩) hl
  | map b=>exact hb.block b hl
 refine⟨ds,[],p++[],[],p,[],hW',?_,?_,?_,hb.frame _,fun h=>by cases h⟩
 ·rw[hr,hfn.1]
  exact trodAll_mk1 (shut_bool Try.underlying4 _)
 ·rw[hfn.2.1]
  exact again_all hts hA hsame (fun x hx=>by simpa using hlt x (List.mem_append_left _ hx))
 ·rw[hv,hfn.2.2]
  rfl
end Go.Proofs.Ytjliakjbdcplcaa
end

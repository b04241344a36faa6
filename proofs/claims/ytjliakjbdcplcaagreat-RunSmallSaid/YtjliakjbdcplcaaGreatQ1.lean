import Derived.WalkKit
import Derived.WalkSpells
import Derived.WalkLawsBesides
import Derived.Lib.Hide
import Derived.Deep.QuietTactic
import Derived.BigQuiet
import Derived.Deep.Draws
import Derived.Deep.AppendLies
import Derived.Maps.AppendAt
import Derived.Test.YtjliakjbdcplcaaGreatRows
import Derived.ProofKit
import Derived.OpenShut
import Derived.WideKeyArgs
import Derived.CallsIn
import Derived.OrdersIn
import Derived.Below
import Derived.Laws.CopyRow
import Derived.ChangeKeysEq
import Derived.Laws.BitsAllLaws
import Derived.Laws.Small
import Derived.Laws.StructEq
import Derived.Laws.Pointers
section
namespace Go.Proofs.YtjliakjbdcplcaaGreat.Vm
theorem d13_ {P : Prop} (h:P:=by
 rename_i y hy
 split at hs
 ·rename_i y' hy'
  injection hs with hs;subst hs
  simp only[zc_]
  refine xb_.2 fun z hz=>?_
  rcases mem_set_of hz with rfl|hz
  ·exact zc_.of_setp (xb_.1 hv y (List.mem_of_getElem? hy)) hx hy'
  ·exact xb_.1 hv z hz
 ·cases hs):P:=h
theorem d15_ {P : Prop} (h:P:=by
 split at h
 ·split at h
  ·injection h with h;subst h;exact⟨fun n k f h=>(by cases h),rfl⟩
  ·cases h
 ·cases h):P:=h
theorem d16_ {P : Prop} (h:P:=by
 rename_i c' u he
 simp only[Option.some.injEq,Prod.mk.injEq]at ho
 obtain⟨rfl,rfl,rfl⟩:=ho
 obtain⟨h1,h2⟩:=X.ev he hc
 exact⟨h1,by simp[execOp,h2]⟩):P:=h
theorem d17_ {P : Prop} (h:P:=by
 have e1:(wrs h' [(m,HB.gone)] m).born=true:=by show (upd h' m _ m).born=true;rw[zy_];rfl
 have e2:(wrs h' [(m,HB.gone)] i).born=true:=by show (upd h' m _ i).born=true;rw[yj_ him];exact h1.2
 exact⟨e1,e2⟩):P:=h
theorem d18_ {P : Prop} (h:P:=by
 obtain⟨B,hB2⟩:∃B,a.eval x=.slice B 0 (max 0 (cp.getD (β z).2)):=⟨_,by rw[h2];rfl⟩
 rw[hy4]at hfirst
 have hz:ye_ β k 0 g=[]:=rfl
 rw[hz]at hfirst
 cases B with
 | none=>simp[execOp,resolve,invoke,builtin,hB2,hy4,Builtin.copy_,run_underlying hdd,Builtin.lenOf,run_size hie,hes,hfirst,goInt,hmin]
 | some ad=>simp[execOp,resolve,invoke,builtin,hB2,hy4,Builtin.copy_,run_underlying hdd,Builtin.lenOf,run_size hie,hes,hfirst,goInt,hmin,storeCells]):P:=h
theorem d19_ {P : Prop} (h:P:=by
 rw[look_push,hd1]at hv
 rw[hpe,put_get hsz hd2]
 by_cases h:o.dst=some t
 ·simp only[h,if_true,Option.some.injEq]at hv ⊢
  subst hv
  exact⟨k4,k5⟩
 ·simp only[h,if_false]at hv ⊢
  obtain⟨h1,h2⟩:=F t v hv
  exact⟨h1.more k2,by rw[h2];exact h1.den k1⟩):P:=h
theorem d20_ {P : Prop} (h:P:=by
 simp only[h,if_true,Option.some.injEq]at hv ⊢
 subst hv
 exact⟨k4,k5⟩):P:=h
theorem d21_ {P : Prop} (h:P:=by
 simp only[h,if_false]at hv ⊢
 obtain⟨h1,h2⟩:=F t v hv
 exact⟨h1.more k2,by rw[h2];exact h1.den k1⟩):P:=h
theorem d22_ {P : Prop} (h:P:=by
 obtain⟨k1,k2,k3,k4⟩:=k1 r hr
 refine⟨k1,fun⟨i,a',hm,ha,e⟩=>?_,(R.frame r k2 k3).trans k4⟩
 rcases R.own i a' hm ha with h'|h'
 ·omega
 ·exact k3 (by rw[←e];exact h')):P:=h
theorem d23_ {P : Prop} (h:P:=by
 have hlt:i < L1.length:=by
  rcases Nat.lt_or_ge i L1.length with h'|h'
  ·exact h'
  ·rw[xn_ h']at hb;cases hb
 rw[hrn i hi,hm _ (by omega) (by omega)]
 rfl):P:=h
theorem d24_ {P : Prop} (h:P:=by
 simp only[idTo,List.all_eq_true]at hid
 have e:=Nat.eq_of_beq_eq_true (hid i (List.mem_range.2 hi))
 show β (l.getD i 0)=E i
 rw[e];exact hE i hi):P:=h
theorem d25_ {P : Prop} (h:P:=by
 intro β1 hv
 simp only[Vd,zb_,and_true]at hv
 obtain⟨z1,z2⟩:=hv
 simp only[denL,yb_,ya_,z9_,zx_,zb_,z1,z2,d1,d2]):P:=h
theorem d26_ {P : Prop} (h:P:=by
 intro β1 hv
 simp only[denL,yb_,ya_,z9_,zx_,zb_,zd_ b1]):P:=h
theorem d27_ {P : Prop} (h:P:=by
 intro β1 hv
 simp only[denL,yb_,ya_,z9_,zx_,zb_,den_insOf b1,den_insS]):P:=h
theorem d28_ {P : Prop} (h:P:=by
 intro β1 hv
 simp only[Vd,zb_,and_true]at hv
 have z1:=hv
 simp only[denL,yb_,ya_,z9_,zx_,zb_,z1,d1]):P:=h
theorem d29_ {P : Prop} (h:P:=by
 intro x hx
 simp only[List.mem_cons,List.not_mem_nil,or_false]at hx
 rcases hx with rfl|rfl|rfl|rfl
 ·exact z5_ t4 e4 g4
 ·exact viewSnd t6 e6 g6
 ·exact z5_ t10 e10 g10
 ·exact viewSnd t12 e12 g12):P:=h
theorem d30_ {P : Prop} (h:P:=by
 intro β1 hv
 simp only[Vd,zb_,and_true]at hv
 obtain⟨z4,z6,z10,z12⟩:=hv
 simp only[denL,yb_,ya_,z9_,zx_,zb_,z4,z6,z10,z12,d4,d6,d10,d12,zd_ b1,zd_ b5,zd_ b7,zd_ b11,←r8Den (β:=β) (β1:=β1) g3,←r8Den (β:=β) (β1:=β1) g9]):P:=h
theorem d31_ {P : Prop} (h:P:=by
 intro x hx
 simp only[List.mem_cons,List.not_mem_nil,or_false]at hx
 rcases hx with rfl|rfl
 ·exact z5_ t1 e1 g1
 ·exact z5_ t2 e2 g2):P:=h
theorem d32_ {P : Prop} (h:P:=by
 intro x hx
 simp only[List.mem_cons,List.not_mem_nil,or_false]at hx
 subst hx
 ·exact z5_ t1 e1 g1):P:=h
theorem d33_ {P : Prop} (h:P:=by
 refine zf_ (fn:=Tryz.f155) 1 4 0 rfl rfl rfl rfl rfl u5_ rfl fun w0 M E hro=>?_
 repeat' (first|refine Ctl.h ?_ |((with_reducible intro hif);first |(focus (cases hif;done)) |((try simp only[JH]at hif);try exact hy_)) |((with_reducible first|apply J22 zv_ za_|apply J23 fol zv_ za_|apply J24);(·rfl);(· exact k13_);(try kernel_rfl);try exact yr_)|fail)
 apply At.endsRet za_ (fn:=Tryz.f155) (rs:=[.tmp 2]) Anc.refl hro (lb_ rfl) rfl
 ·exact k5_
 ·exact k6_
 ·exact k7_
 ·rfl
 ·exact k38_
 ·exact k9_
 ·exact fun β=>rfl
 ·exact k38_):P:=h
theorem d34_ {P : Prop} (h:P:=by
 rw[show (if ((decide (a < 0)) !=(decide (b < 0)))=true then -D else D)=D by simp[h1,h2]]
 refine zf_ (fn:=Tryz.f121) 1 196 0 rfl rfl rfl rfl rfl u4_ rfl fun w0 M E hro=>?_
 repeat' (first|refine Ctl.h ?_ |((with_reducible intro hif);first |(focus (cases hif;done)) |((try simp only[JH]at hif);try exact hy_)) |((with_reducible first|apply J22 zq_ za_|apply J23 fol zq_ za_|apply J24);(·rfl);(· exact k55_);(try kernel_rfl);try exact k52_)|fail)
 apply At.endsRet za_ (fn:=Tryz.f121) (rs:=[.tmp 6,.tmp 7]) Anc.refl hro (lb_ rfl) rfl
 ·exact k5_
 ·exact k6_
 ·exact k7_
 ·rfl
 ·exact yq_
 ·exact k9_
 ·exact fun β=>rfl
 ·exact yq_):P:=h
theorem d35_ {P : Prop} (h:P:=by
 rw[show (if ((decide (a < 0)) !=(decide (b < 0)))=true then -D else D) = -D by simp[h1,h2]]
 refine zf_ (fn:=Tryz.f121) 1 196 0 rfl rfl rfl rfl rfl u4_ rfl fun w0 M E hro=>?_
 repeat' (first|refine Ctl.h ?_ |((with_reducible intro hif);first |(focus (cases hif;done)) |((try simp only[JH]at hif);try exact hy_)) |((with_reducible first|apply J22 zq_ za_|apply J23 fol zq_ za_|apply J24);(·rfl);(· exact k55_);(try kernel_rfl);try exact k52_)|fail)
 apply At.endsRet za_ (fn:=Tryz.f121) (rs:=[.tmp 6,.tmp 7]) Anc.refl hro (lb_ rfl) rfl
 ·exact k5_
 ·exact k6_
 ·exact k7_
 ·rfl
 ·exact yq_
 ·exact k9_
 ·exact fun β=>rfl
 ·exact yq_):P:=h
theorem d36_ {P : Prop} (h:P:=by
 intro x hx
 simp only[List.mem_cons,List.not_mem_nil,or_false]at hx
 subst hx
 ·exact viewU64 t1 e1 g1):P:=h
theorem d37_ {P : Prop} (h:P:=by
 intro x hx
 simp only[List.mem_cons,List.not_mem_nil,or_false]at hx
 rcases hx with rfl|rfl
 ·exact z5_ t14 e14 g14
 ·exact viewSnd t16 e16 g16):P:=h
theorem d38_ {P : Prop} (h:P:=by
 intro β1 hv
 simp only[Vd,zb_,and_true]at hv
 obtain⟨z14,z16⟩:=hv
 simp only[denL,yb_,ya_,z9_,zx_,zb_,yu_,evS,sr,csl,ssl,z14,z16,d14,d16,zd_ b1,zd_ b2,zd_ b3,zd_ b4,zd_ b5,zd_ b6,zd_ b7,zd_ b8,zd_ b9,zd_ b10,zd_ b11,zd_ b15,←r8Den (β:=β) (β1:=β1) g13]):P:=h
theorem d39_ {P : Prop} (h:P:=by
 refine zf_ (fn:=Tryz.f179) 4 24 0 rfl rfl rfl rfl rfl u12_ rfl fun w0 M E hro=>?_
 repeat' (first|refine Ctl.h ?_ |((with_reducible intro hif);first |(focus (cases hif;done)) |((try simp only[JH]at hif);try exact hy_)) |((with_reducible first|apply J22 cM0_ok za_|apply J23 fol cM0_ok za_|apply J24);(·rfl);(· exact k82_);(try kernel_rfl);try exact k15_)|fail)
 apply At.endsRet za_ (fn:=Tryz.f179) (rs:=[.tmp 4]) Anc.refl hro (lb_ rfl) rfl
 ·exact yl_
 ·exact k6_
 ·exact k7_
 ·rfl
 ·exact xg_
 ·exact k9_
 ·exact fun β=>rfl
 ·exact xg_):P:=h
theorem d40_ {P : Prop} (h:P:=by
 repeat' (first|refine Ctl.h ?_ |((with_reducible intro hif);first |(focus (cases hif;done)) |((try simp only[JH]at hif);try exact hy_)) |((with_reducible first|apply J22 x5_ za_|apply J23 fol x5_ za_|apply J24);(·rfl);(· exact k95_);(try kernel_rfl);try exact yr_)|fail)
 apply At.endsPick [0,1,2,3,3] za_ (fn:=Tryz.f157) (rs:=[.tmp 2]) Anc.refl hro (lb_ rfl) rfl
 ·exact yl_
 ·exact xz_
 ·rfl
 ·rfl
 ·rfl
 ·exact k93_
 ·rfl
 ·exact xg_
 ·exact k9_
 ·exact fun β=>rfl
 ·exact xg_):P:=h
theorem d41_ {P : Prop} (h:P:=by
 intro x hx
 simp only[List.mem_cons,List.not_mem_nil,or_false]at hx
 rcases hx with rfl|rfl|rfl
 ·exact x2_ t1 e1 g1
 ·exact z5_ t10 e10 g10
 ·exact viewSnd t12 e12 g12):P:=h
theorem d42_ {P : Prop} (h:P:=by
 intro x hx
 simp only[List.mem_cons,List.not_mem_nil,or_false]at hx
 rcases hx with rfl|rfl
 ·exact z5_ t4 e4 g4
 ·exact viewSnd t6 e6 g6):P:=h
theorem d43_ {P : Prop} (h:P:=by
 intro x hx
 simp only[List.mem_cons,List.not_mem_nil,or_false]at hx
 rcases hx with rfl|rfl
 ·exact x2_ t1 e1 g1
 ·exact z5_ t12 e12 g12):P:=h
theorem d44_ {P : Prop} (h:P:=by
 intro β1 hv
 simp only[Vd,zb_,and_true]at hv
 obtain⟨z1,z12⟩:=hv
 simp only[denL,yb_,ya_,z9_,zx_,zb_,yu_,evS,sr,csl,ssl,z1,z12,d1,d12,zd_ b2,zd_ b3,zd_ b4,zd_ b5,zd_ b6,zd_ b7,zd_ b8,zd_ b9,zd_ b10,zd_ b11,zd_ b13,zd_ b14]):P:=h
theorem d45_ {P : Prop} (h:P:=by
 intro β1 hv
 simp only[Vd,zb_,and_true]at hv
 obtain⟨z1,z10,z12⟩:=hv
 simp only[denL,yb_,ya_,z9_,zx_,zb_,z1,z10,z12,d1,d10,d12,zd_ b2,zd_ b3,zd_ b4,zd_ b5,zd_ b6,zd_ b7,zd_ b11,←r8Den (β:=β) (β1:=β1) g9]):P:=h
theorem d46_ {P : Prop} (h:P:=by
 intro β1 hv
 simp only[Vd,zb_,and_true]at hv
 obtain⟨z1,z12⟩:=hv
 simp only[denL,yb_,ya_,z9_,zx_,zb_,z1,z12,d1,d12,zd_ b2,zd_ b3,zd_ b4,zd_ b5,zd_ b6,zd_ b7,zd_ b8,zd_ b9,zd_ b10,zd_ b11,zd_ b13,zd_ b14]):P:=h
theorem d47_ {P : Prop} (h:P:=by
 by_cases hkf:k < f.toNat
 ·have hkf2:(k:Int) < f:=by omega
  have hn190:=stepE_ne190 P v ⟨at1,false,rg,ce,dr,se⟩
  have hl2:(tr++[at1]).length=k+1:=by simp[hl]
  by_cases hst:x3_ P v ⟨at1,false,rg,ce,dr,se⟩=0
  ·repeat' (first|refine Ctl.h ?_ |((with_reducible intro hif);first |(focus (cases hif;done)) |((try simp only[JH]at hif);try exact hy_)) |((with_reducible first|apply J22 zz_ za_|apply J23 fol zz_ za_|apply J24);(·rfl);(· exact k164_);(try kernel_rfl);try exact yr_)|fail)
   with_reducible apply WF.split 3 5
   ·rfl
   with_reducible apply At.run zz_ za_
   ·rfl
   ·rfl
   ·rfl
   ·exact k157_
   ·exact xd_
   with_reducible apply At.yield (gr:=_)
   ·rfl
   ·rfl
   ·rfl
   ·rfl
   ·rfl
   ·rfl
   ·exact k157_
   ·exact k158_
   ·exact k157_
   ·exact xd_
   ·exact k157_
   ·exact xd_
   ·exact k158_
   ·exact hrec
   ·exact hcf
   ·rfl
   ·rfl
   ·rfl
   intro lb E2 next hE2 hnext
   repeat' (first|refine Ctl.h ?_ |((with_reducible intro hif);first |(focus (cases hif;done)) |((try simp only[JH]at hif);try exact hy_)) |((with_reducible first|apply J22 zz_ za_|apply J23 fol zz_ za_|apply J24);(·rfl);(· exact k165_);(try kernel_rfl);try exact yr_)|fail)
   with_reducible apply At.begins hrec
   ·rfl
   with_reducible refine At.code ?_
   repeat' (first|refine Ctl.h ?_ |((with_reducible intro hif);first |(focus (cases hif;done)) |((try simp only[JH]at hif);try exact hy_)) |((with_reducible first|apply J22 zz_ za_|apply J23 fol zz_ za_|apply J24);(·rfl);(· exact k165_);(try kernel_rfl);try exact yr_)|fail)
   with_reducible apply At.roundNormal
   ·exact k158_
   apply hnext
   with_reducible apply At.runEnd zz_ za_
   ·rfl
   ·rfl
   ·rfl
   ·exact k157_
   ·exact xd_
   repeat' (first|refine Ctl.h ?_ |((with_reducible intro hif);first |(focus (cases hif;done)) |((try simp only[JH]at hif);try exact hy_)) |((with_reducible first|apply J22 zz_ za_|apply J23 fol zz_ za_|apply J24);(·rfl);(· exact k165_);(try kernel_rfl);try exact yr_)|fail)
   refine At.nextPick [0,1,2,3,4,5,6,7,8,9,10,11,12,13,14,15,16,18] ⟨k+1,xx_ P v ⟨at1,false,rg,ce,dr,se⟩,stepX P ⟨at1,false,rg,ce,dr,se⟩ x,tr++[at1],at1⟩ ?_ rfl rfl rfl ?_ rfl ?_ ?_ ?_ rfl
   ·exact k149_
   ·exact k40_
   ·exact k151_
   ·exact k32_
   ·exact k151_
  ·rw[runA_bad rfl (by omega) hst]at hr1
   subst hr1
   have hb1:decide (x3_ P v ⟨at1,false,rg,ce,dr,se⟩=0)=false:=by simp[hst]
   have hb2:(if x3_ P v ⟨at1,false,rg,ce,dr,se⟩=190 then 0 else x3_ P v ⟨at1,false,rg,ce,dr,se⟩)=x3_ P v ⟨at1,false,rg,ce,dr,se⟩:=if_neg hn190
   have hb3:(decide (x3_ P v ⟨at1,false,rg,ce,dr,se⟩≠0) && decide (x3_ P v ⟨at1,false,rg,ce,dr,se⟩≠190))=true:=by simp[hst,hn190]
   repeat' (first|refine Ctl.h ?_ |((with_reducible intro hif);first |(focus (cases hif;done)) |((try simp only[JH]at hif);try exact hy_)) |((with_reducible first|apply J22 zz_ za_|apply J23 fol zz_ za_|apply J24);(·rfl);(· exact k164_);(try kernel_rfl);try exact yr_)|fail)
   with_reducible apply WF.split 3 5
   ·rfl
   with_reducible apply At.run zz_ za_
   ·rfl
   ·rfl
   ·rfl
   ·exact k157_
   ·exact xd_
   with_reducible apply At.yield (gr:=_)
   ·rfl
   ·rfl
   ·rfl
   ·rfl
   ·rfl
   ·rfl
   ·exact k157_
   ·exact k158_
   ·exact k157_
   ·exact xd_
   ·exact k157_
   ·exact xd_
   ·exact k158_
   ·exact hrec
   ·exact hcf
   ·rfl
   ·rfl
   ·rfl
   intro lb E2 next hE2 hnext
   repeat' (first|refine Ctl.h ?_ |((with_reducible intro hif);first |(focus (cases hif;done)) |((try simp only[JH]at hif);try exact hy_)) |((with_reducible first|apply J22 zz_ za_|apply J23 fol zz_ za_|apply J24);(·rfl);(· exact k165_);(try kernel_rfl);try exact yr_)|fail)
   with_reducible apply At.begins hrec
   ·rfl
   with_reducible refine At.code ?_
   repeat' (first|refine Ctl.h ?_ |((with_reducible intro hif);first |(focus (cases hif;done)) |((try simp only[JH]at hif);try exact hy_)) |((with_reducible first|apply J22 zz_ za_|apply J23 fol zz_ za_|apply J24);(·rfl);(· exact k166_);(try kernel_rfl);try exact yr_)|fail)
   with_reducible apply At.roundRet
   ·exact k158_
   apply hnext
   with_reducible apply At.runEnd zz_ za_
   ·rfl
   ·rfl
   ·rfl
   ·exact k157_
   ·exact xd_
   repeat' (first|refine Ctl.h ?_ |((with_reducible intro hif);first |(focus (cases hif;done)) |((try simp only[JH]at hif);try exact hy_)) |((with_reducible first|apply J22 zz_ za_|apply J23 fol zz_ za_|apply J24);(·rfl);(· exact k165_);(try kernel_rfl);try exact yr_)|fail)
   with_reducible apply At.itRet .done
   ·rfl
   ·rfl
   ·intro h;cases h
   apply haft
   intro w1 M1 D1 hA
   dsimp only
   rw[hb1,hb2]
   try rw[hl2]
   try rw[hb3]
   repeat' (first|refine Ctl.h ?_ |((with_reducible intro hif);first |(focus (cases hif;done)) |((try simp only[JH]at hif);try exact hy_)) |((with_reducible first|apply J22 zz_ za_|apply J23 fol zz_ za_|apply J24);(·rfl);(· exact k165_);(try kernel_rfl);try exact yr_)|fail)
   apply At.endsPick [0,1,2,3,4,5,6,7,8,9,18] za_ (fn:=Tryz.f15) (rs:=[.cell 4 4,.cell 5 43]) hA hro (lb_ rfl) rfl
   ·exact yl_
   ·exact xz_
   ·rfl
   ·rfl
   ·rfl
   ·exact k40_
   ·rfl
   ·exact k151_
   ·exact k9_
   ·exact fun β=>rfl
   ·exact k151_
 ·have e0:f.toNat - k=0:=by omega
  have hkf2:¬(k:Int) < f:=by omega
  rw[e0,x7_ rfl]at hr1
  subst hr1
  repeat' (first|refine Ctl.h ?_ |((with_reducible intro hif);first |(focus (cases hif;done)) |((try simp only[JH]at hif);try exact hy_)) |((with_reducible first|apply J22 zz_ za_|apply J23 fol zz_ za_|apply J24);(·rfl);(· exact k167_);(try kernel_rfl);try exact yr_)|fail)
  with_reducible apply WF.split 3 5
  ·rfl
  with_reducible apply At.run zz_ za_
  ·rfl
  ·rfl
  ·rfl
  ·exact k159_
  ·exact xd_
  with_reducible apply At.yield (gr:=_)
  ·rfl
  ·rfl
  ·rfl
  ·rfl
  ·rfl
  ·rfl
  ·exact k159_
  ·exact k160_
  ·exact k159_
  ·exact xd_
  ·exact k159_
  ·exact xd_
  ·exact k160_
  ·exact hrec
  ·exact hcf
  ·rfl
  ·rfl
  ·rfl
  intro lb E2 next hE2 hnext
  repeat' (first|refine Ctl.h ?_ |((with_reducible intro hif);first |(focus (cases hif;done)) |((try simp only[JH]at hif);try exact hy_)) |((with_reducible first|apply J22 zz_ za_|apply J23 fol zz_ za_|apply J24);(·rfl);(· exact k168_);(try kernel_rfl);try exact yr_)|fail)
  with_reducible apply At.begins hrec
  ·rfl
  with_reducible refine At.code ?_
  repeat' (first|refine Ctl.h ?_ |((with_reducible intro hif);first |(focus (cases hif;done)) |((try simp only[JH]at hif);try exact hy_)) |((with_reducible first|apply J22 zz_ za_|apply J23 fol zz_ za_|apply J24);(·rfl);(· exact k168_);(try kernel_rfl);try exact yr_)|fail)
  with_reducible apply At.roundRet
  ·exact k160_
  apply hnext
  with_reducible apply At.runEnd zz_ za_
  ·rfl
  ·rfl
  ·rfl
  ·exact k159_
  ·exact xd_
  repeat' (first|refine Ctl.h ?_ |((with_reducible intro hif);first |(focus (cases hif;done)) |((try simp only[JH]at hif);try exact hy_)) |((with_reducible first|apply J22 zz_ za_|apply J23 fol zz_ za_|apply J24);(·rfl);(· exact k168_);(try kernel_rfl);try exact yr_)|fail)
  with_reducible apply At.itRet .done
  ·rfl
  ·rfl
  ·intro h;cases h
  apply haft
  intro w1 M1 D1 hA
  dsimp only
  try rw[hl]
  repeat' (first|refine Ctl.h ?_ |((with_reducible intro hif);first |(focus (cases hif;done)) |((try simp only[JH]at hif);try exact hy_)) |((with_reducible first|apply J22 zz_ za_|apply J23 fol zz_ za_|apply J24);(·rfl);(· exact k168_);(try kernel_rfl);try exact yr_)|fail)
  apply At.endsPick [0,1,2,3,4,5,6,7,8,9,17] za_ (fn:=Tryz.f15) (rs:=[.cell 4 4,.cell 5 43]) hA hro (lb_ rfl) rfl
  ·exact yl_
  ·exact xz_
  ·rfl
  ·rfl
  ·rfl
  ·exact k40_
  ·rfl
  ·exact k151_
  ·exact k9_
  ·exact fun β=>rfl
  ·exact k151_):P:=h
theorem d52_ {P : Prop} (h:P:=by
 rw[x9_ rfl]at hr1
 subst hr1
 repeat' (first|refine Ctl.h ?_ |((with_reducible intro hif);first |(focus (cases hif;done)) |((try simp only[JH]at hif);try exact hy_)) |((with_reducible first|apply J22 zz_ za_|apply J23 fol zz_ za_|apply J24);(·rfl);(· exact k168_);(try kernel_rfl);try exact yr_)|fail)
 with_reducible apply At.itNormal .ready
 ·rfl
 ·rfl
 ·intro h;cases h
 apply haft
 intro w1 M1 D1 hA
 dsimp only
 try rw[hl]
 repeat' (first|refine Ctl.h ?_ |((with_reducible intro hif);first |(focus (cases hif;done)) |((try simp only[JH]at hif);try exact hy_)) |((with_reducible first|apply J22 zz_ za_|apply J23 fol zz_ za_|apply J24);(·rfl);(· exact k168_);(try kernel_rfl);try exact yr_)|fail)
 apply At.endsPick [0,1,2,3,4,5,6,7,8,9,17] za_ (fn:=Tryz.f15) (rs:=[.cell 4 4,.cell 5 43]) hA hro (lb_ rfl) rfl
 ·exact yl_
 ·exact xz_
 ·rfl
 ·rfl
 ·rfl
 ·exact k40_
 ·rfl
 ·exact k151_
 ·exact k9_
 ·exact fun β=>rfl
 ·exact k151_):P:=h
theorem d53_ {P : Prop} (h:P:=by
 intro β1 hv
 simp only[Vd,zb_,and_true]at hv
 obtain⟨z1,z12⟩:=hv
 simp only[denL,yb_,ya_,z9_,zx_,zb_,z1,z12,d1,d12,zd_ b2,zd_ b3,zd_ b4,zd_ b5,zd_ b6,zd_ b7,zd_ b8,zd_ b9,zd_ b10,zd_ b11,zd_ b13]):P:=h
theorem d54_ {P : Prop} (h:P:=by
 have hq:xs.getD j 0=ys.getD j 0:=hif
 refine At.next (j+1) ?_ ?_ ?_ rfl ?_ ?_ rfl
 ·exact k11_
 ·exact we_
 ·exact k7_
 ·exact k8_
 ·exact k8_):P:=h
theorem d55_ {P : Prop} (h:P:=by
 refine At.nextPick [0,1,2,3,4,5,6,7,8,9,10,11,12,13,29,15,16,17,18,19,20,21,22,23,24,25,26,27,28,27,31,30,33] true ?_ rfl rfl rfl ?_ rfl ?_ ?_ ?_ rfl
 ·exact fun h=>by cases h
 ·exact k40_
 ·exact yw_
 ·exact k32_
 ·exact yw_):P:=h
theorem d56_ {P : Prop} (h:P:=by
 refine At.nextPick [0,1,2,3,4,5,6,7,8,9,10,11,12,13,29,15,16,17,18,19,20,21,22,23,24,25,26,27,28,32,31,30,33] true ?_ rfl rfl rfl ?_ rfl ?_ ?_ ?_ rfl
 ·exact fun h=>by cases h
 ·exact k40_
 ·exact yw_
 ·exact k32_
 ·exact yw_):P:=h
theorem d57_ {P : Prop} (h:P:=by
 refine At.nextPick [0,1,2,3,4,5,6,7,8,9,10,11,12,13,14,15,16,17,18,19,20,21,22,23,24,25,26,29,30] ⟨j+1,⟨at2,en2,rg2,ce2,dr2,se2⟩,x2,u+tr.length,false,false⟩ ?_ rfl rfl rfl ?_ rfl ?_ ?_ ?_ rfl
 ·exact k176_
 ·exact k40_
 ·exact yw_
 ·exact k32_
 ·exact yw_):P:=h
theorem d58_ {P : Prop} (h:P:=by
 refine At.nextPick [0,1,2,3,4,5,6,7,8,9,10,11,12,13,14,15,16,17,18,19,20,21,22,23,24,25,26,29,30] ⟨j+1,⟨at2,en2,rg2,ce2,dr2,se2⟩,x2,u+tr.length,false,true⟩ ?_ rfl rfl rfl ?_ rfl ?_ ?_ ?_ rfl
 ·exact k177_
 ·exact k40_
 ·exact yw_
 ·exact k32_
 ·exact yw_):P:=h
theorem d59_ {P : Prop} (h:P:=by
 refine At.nextPick [0,1,2,3,4,5,6,7,8,9,10,11,12,13,14,15,16,17,18,19,20,21,22,23,24,25,26,29,30] ⟨j+1,⟨at2,en2,rg2,ce2,dr2,se2⟩,x2,u,true,false⟩ ?_ rfl rfl rfl ?_ rfl ?_ ?_ ?_ rfl
 ·exact k178_
 ·exact k40_
 ·exact yw_
 ·exact k32_
 ·exact yw_):P:=h
theorem d60_ {P : Prop} (h:P:=by
 refine At.nextPick [0,1,2,3,4,5,6,7,8,9,10,11,12,13,14,15,16,17,18,19,20,21,22,23,24,25,26,29,30] ⟨j+1,⟨at2,en2,rg2,ce2,dr2,se2⟩,x2,u,true,true⟩ ?_ rfl rfl rfl ?_ rfl ?_ ?_ ?_ rfl
 ·exact k179_
 ·exact k40_
 ·exact yw_
 ·exact k32_
 ·exact yw_):P:=h
theorem d61_ {P : Prop} (h:P:=by
 repeat' (first|refine Ctl.h ?_ |((with_reducible intro hif);first |(focus (cases hif;done)) |((try simp only[JH]at hif);try exact hy_)) |((with_reducible first|apply J22 yd_ za_|apply J23 fol yd_ za_|apply J24);(·rfl);(· exact k194_);(try kernel_rfl);try exact k191_)|fail)
 refine At.next (z+1) ?_ ?_ ?_ rfl ?_ ?_ rfl
 ·exact⟨hz2,by omega⟩
 ·exact we_
 ·exact k7_
 ·exact xa_
 ·exact xa_):P:=h
theorem d62_ {P : Prop} (h:P:=by
 obtain rfl:z=16:=by omega
 repeat' (first|refine Ctl.h ?_ |((with_reducible intro hif);first |(focus (cases hif;done)) |((try simp only[JH]at hif);try exact hy_)) |((with_reducible first|apply J22 yd_ za_|apply J23 fol yd_ za_|apply J24);(·rfl);(· exact k190_);(try kernel_rfl);try exact k191_)|fail)
 refine At.next (f+1) ?_ ?_ ?_ rfl ?_ ?_ rfl
 ·exact⟨hf2,by omega⟩
 ·exact we_
 ·exact k7_
 ·exact xa_
 ·exact xa_):P:=h
theorem d63_ {P : Prop} (h:P:=by
 repeat' (first|refine Ctl.h ?_ |((with_reducible intro hif);first |(focus (cases hif;done)) |((try simp only[JH]at hif);try exact hy_)) |((with_reducible first|apply J22 yd_ za_|apply J23 fol yd_ za_|apply J24);(·rfl);(· exact k195_);(try kernel_rfl);try exact k191_)|fail)
 refine At.next (i+1) ?_ ?_ ?_ rfl ?_ ?_ rfl
 ·exact⟨hi2,by omega⟩
 ·exact we_
 ·exact k7_
 ·exact xa_
 ·exact xa_):P:=h
end Go.Proofs.YtjliakjbdcplcaaGreat.Vm
end
section
namespace Go.Proofs.YtjliakjbdcplcaaGreat.Vm
theorem d3_ {P : Prop} (h:P:=by
 rw[List.getD_eq_getElem?_getD,List.getElem?_eq_getElem hk,List.take_add_one,List.getElem?_eq_getElem hk];rfl):P:=h
theorem d4_ {P : Prop} (h:P:=by
 have l1:=yi_ X
 have l2:=yi_ Y
 by_cases h0:b=0
 ·refine zf_ (fn:=Tryz.f121) 1 196 0 rfl rfl rfl rfl rfl u4_ rfl fun w0 M E hro=>?_
  repeat' (first|refine Ctl.h ?_ |((with_reducible intro hif);first |(focus (cases hif;done)) |((try simp only[JH]at hif);try exact hy_)) |((with_reducible first|apply J22 zq_ za_|apply J23 fol zq_ za_|apply J24);(·rfl);(· exact k53_);(try kernel_rfl);try exact k52_)|fail)
  apply At.endsRet za_ (fn:=Tryz.f121) (rs:=[.tmp 6,.tmp 7]) Anc.refl hro (lb_ rfl) rfl
  ·exact k5_
  ·exact k6_
  ·exact k7_
  ·rfl
  ·exact yq_
  ·exact k9_
  ·exact fun β=>rfl
  ·exact yq_
 ·refine zf_ (fn:=Tryz.f121) 1 196 0 rfl rfl rfl rfl rfl u4_ rfl fun w0 M E hro=>?_
  repeat' (first|refine Ctl.h ?_ |((with_reducible intro hif);first |(focus (cases hif;done)) |((try simp only[JH]at hif);try exact hy_)) |((with_reducible first|apply J22 zq_ za_|apply J23 fol zq_ za_|apply J24);(·rfl);(· exact k54_);(try kernel_rfl);try exact k52_)|fail)
  apply At.endsRet za_ (fn:=Tryz.f121) (rs:=[.tmp 6,.tmp 7]) Anc.refl hro (lb_ rfl) rfl
  ·exact k5_
  ·exact k6_
  ·exact k7_
  ·rfl
  ·exact yq_
  ·exact k9_
  ·exact fun β=>rfl
  ·exact yq_):P:=h
theorem d5_ {P : Prop} (h:P:=by
 have l1:=yi_ X
 have l2:=yi_ Y
 by_cases h0:b=0
 ·refine zf_ (fn:=Tryz.f121) 1 196 0 rfl rfl rfl rfl rfl u4_ rfl fun w0 M E hro=>?_
  repeat' (first|refine Ctl.h ?_ |((with_reducible intro hif);first |(focus (cases hif;done)) |((try simp only[JH]at hif);try exact hy_)) |((with_reducible first|apply J22 zq_ za_|apply J23 fol zq_ za_|apply J24);(·rfl);(· exact k57_);(try kernel_rfl);try exact k52_)|fail)
  apply At.endsRet za_ (fn:=Tryz.f121) (rs:=[.tmp 6,.tmp 7]) Anc.refl hro (lb_ rfl) rfl
  ·exact k5_
  ·exact k6_
  ·exact k7_
  ·rfl
  ·exact yq_
  ·exact k9_
  ·exact fun β=>rfl
  ·exact yq_
 ·refine zf_ (fn:=Tryz.f121) 1 196 0 rfl rfl rfl rfl rfl u4_ rfl fun w0 M E hro=>?_
  repeat' (first|refine Ctl.h ?_ |((with_reducible intro hif);first |(focus (cases hif;done)) |((try simp only[JH]at hif);try exact hy_)) |((with_reducible first|apply J22 zq_ za_|apply J23 fol zq_ za_|apply J24);(·rfl);(· exact k58_);(try kernel_rfl);try exact k52_)|fail)
  apply At.endsRet za_ (fn:=Tryz.f121) (rs:=[.tmp 6,.tmp 7]) Anc.refl hro (lb_ rfl) rfl
  ·exact k5_
  ·exact k6_
  ·exact k7_
  ·rfl
  ·exact yq_
  ·exact k9_
  ·exact fun β=>rfl
  ·exact yq_):P:=h
theorem d6_ {P : Prop} (h:P:=by
 have l1:=yi_ X
 have l2:=yi_ Y
 by_cases h0:b=0
 ·by_cases h1:a < b
  ·rw[if_pos h1]
   refine zf_ (fn:=Tryz.f121) 1 196 0 rfl rfl rfl rfl rfl u4_ rfl fun w0 M E hro=>?_
   repeat' (first|refine Ctl.h ?_ |((with_reducible intro hif);first |(focus (cases hif;done)) |((try simp only[JH]at hif);try exact hy_)) |((with_reducible first|apply J22 zq_ za_|apply J23 fol zq_ za_|apply J24);(·rfl);(· exact k63_);(try kernel_rfl);try exact k52_)|fail)
   apply At.endsRet za_ (fn:=Tryz.f121) (rs:=[.tmp 6,.tmp 7]) Anc.refl hro (lb_ rfl) rfl
   ·exact k5_
   ·exact k6_
   ·exact k7_
   ·rfl
   ·exact yq_
   ·exact k9_
   ·exact fun β=>rfl
   ·exact yq_
  ·rw[if_neg h1]
   refine zf_ (fn:=Tryz.f121) 1 196 0 rfl rfl rfl rfl rfl u4_ rfl fun w0 M E hro=>?_
   repeat' (first|refine Ctl.h ?_ |((with_reducible intro hif);first |(focus (cases hif;done)) |((try simp only[JH]at hif);try exact hy_)) |((with_reducible first|apply J22 zq_ za_|apply J23 fol zq_ za_|apply J24);(·rfl);(· exact k63_);(try kernel_rfl);try exact k52_)|fail)
   apply At.endsRet za_ (fn:=Tryz.f121) (rs:=[.tmp 6,.tmp 7]) Anc.refl hro (lb_ rfl) rfl
   ·exact k5_
   ·exact k6_
   ·exact k7_
   ·rfl
   ·exact yq_
   ·exact k9_
   ·exact fun β=>rfl
   ·exact yq_
 ·by_cases h1:a < b
  ·rw[if_pos h1]
   refine zf_ (fn:=Tryz.f121) 1 196 0 rfl rfl rfl rfl rfl u4_ rfl fun w0 M E hro=>?_
   repeat' (first|refine Ctl.h ?_ |((with_reducible intro hif);first |(focus (cases hif;done)) |((try simp only[JH]at hif);try exact hy_)) |((with_reducible first|apply J22 zq_ za_|apply J23 fol zq_ za_|apply J24);(·rfl);(· exact k56_);(try kernel_rfl);try exact k52_)|fail)
   apply At.endsRet za_ (fn:=Tryz.f121) (rs:=[.tmp 6,.tmp 7]) Anc.refl hro (lb_ rfl) rfl
   ·exact k5_
   ·exact k6_
   ·exact k7_
   ·rfl
   ·exact yq_
   ·exact k9_
   ·exact fun β=>rfl
   ·exact yq_
  ·rw[if_neg h1]
   refine zf_ (fn:=Tryz.f121) 1 196 0 rfl rfl rfl rfl rfl u4_ rfl fun w0 M E hro=>?_
   repeat' (first|refine Ctl.h ?_ |((with_reducible intro hif);first |(focus (cases hif;done)) |((try simp only[JH]at hif);try exact hy_)) |((with_reducible first|apply J22 zq_ za_|apply J23 fol zq_ za_|apply J24);(·rfl);(· exact k56_);(try kernel_rfl);try exact k52_)|fail)
   apply At.endsRet za_ (fn:=Tryz.f121) (rs:=[.tmp 6,.tmp 7]) Anc.refl hro (lb_ rfl) rfl
   ·exact k5_
   ·exact k6_
   ·exact k7_
   ·rfl
   ·exact yq_
   ·exact k9_
   ·exact fun β=>rfl
   ·exact yq_):P:=h
theorem d7_ {P : Prop} (h:P:=by
 rw[List.getD_eq_getElem?_getD,List.getElem?_set,List.getD_eq_getElem?_getD]
 by_cases h:q=k
 ·subst h;simp[hk]
 ·have h':¬k=q:=fun e=>h e.symm
  simp[h,h']):P:=h
theorem d8_ {P : Prop} (h:P:=by
 have ⟨⟨o0,o1,a0,a1,b0,b1,c0,c1,n0,n1⟩,a2,b2,c2,at0,at1,dr0,dr1,⟨ga0,ga1⟩,⟨gb0,gb1⟩,⟨gc0,gc1⟩,hb,hcl,tm0,tm1,pr0,pr1⟩:=K.all
 simp only[oneL,sr,csl,ssl,evS,yu_,ys_,nilS,List.cons_append,List.nil_append]
 refine zf_ (fn:=Tryz.f86) 5 190 0 rfl rfl rfl rfl rfl u7_ rfl fun w0 M E hro=>?_
 repeat' (first|refine Ctl.h ?_ |((with_reducible intro hif);first |(focus (cases hif;done)) |((try simp only[JH]at hif);try exact hy_)) |((with_reducible first|apply J22 yf_ za_|apply J23 fol yf_ za_|apply J24);(·rfl);(· exact k69_);(try kernel_rfl);try exact k68_)|fail)
 apply At.endsRet za_ (fn:=Tryz.f86) (rs:=[.cell 6 105,.tmp 7]) Anc.refl hro (lb_ rfl) rfl
 ·exact yl_
 ·exact k6_
 ·exact k7_
 ·rfl
 ·exact k66_
 ·exact k9_
 ·exact k67_
 ·exact k66_):P:=h
theorem d9_ {P : Prop} (h:P:=by
 have ⟨⟨o0,o1,a0,a1,b0,b1,c0,c1,n0,n1⟩,a2,b2,c2,at0,at1,dr0,dr1,⟨ga0,ga1⟩,⟨gb0,gb1⟩,⟨gc0,gc1⟩,hb,hcl,tm0,tm1,pr0,pr1⟩:=K.all
 simp only[oneL,sr,csl,ssl,evS,yu_,ys_,nilS,List.cons_append,List.nil_append]
 refine zf_ (fn:=Tryz.f86) 5 190 0 rfl rfl rfl rfl rfl u7_ rfl fun w0 M E hro=>?_
 repeat' (first|refine Ctl.h ?_ |((with_reducible intro hif);first |(focus (cases hif;done)) |((try simp only[JH]at hif);try exact hy_)) |((with_reducible first|apply J22 yf_ za_|apply J23 fol yf_ za_|apply J24);(·rfl);(· exact k70_);(try kernel_rfl);try exact k68_)|fail)
 apply At.endsRet za_ (fn:=Tryz.f86) (rs:=[.cell 6 105,.tmp 7]) Anc.refl hro (lb_ rfl) rfl
 ·exact yl_
 ·exact k6_
 ·exact k7_
 ·rfl
 ·exact k66_
 ·exact k9_
 ·(intro β;rfl)
 ·exact k66_):P:=h
theorem d10_ {P : Prop} (h:P:=by
 have ⟨⟨o0,o1,a0,a1,b0,b1,c0,c1,n0,n1⟩,a2,b2,c2,at0,at1,dr0,dr1,⟨ga0,ga1⟩,⟨gb0,gb1⟩,⟨gc0,gc1⟩,hb,hcl,tm0,tm1,pr0,pr1⟩:=K.all
 simp only[oneL,sr,csl,ssl,evS,yu_,ys_,nilS,List.cons_append,List.nil_append]
 refine zf_ (fn:=Tryz.f86) 5 190 0 rfl rfl rfl rfl rfl u7_ rfl fun w0 M E hro=>?_
 repeat' (first|refine Ctl.h ?_ |((with_reducible intro hif);first |(focus (cases hif;done)) |((try simp only[JH]at hif);try exact hy_)) |((with_reducible first|apply J22 yf_ za_|apply J23 fol yf_ za_|apply J24);(·rfl);(· exact k71_);(try kernel_rfl);try exact k68_)|fail)
 apply At.endsRet za_ (fn:=Tryz.f86) (rs:=[.cell 6 105,.tmp 7]) Anc.refl hro (lb_ rfl) rfl
 ·exact yl_
 ·exact k6_
 ·exact k7_
 ·rfl
 ·exact k66_
 ·exact k9_
 ·(intro β;rfl)
 ·exact k66_):P:=h
theorem d11_ {P : Prop} (h:P:=by
 have ⟨⟨o0,o1,a0,a1,b0,b1,c0,c1,n0,n1⟩,a2,b2,c2,at0,at1,dr0,dr1,⟨ga0,ga1⟩,⟨gb0,gb1⟩,⟨gc0,gc1⟩,hb,hcl,tm0,tm1,pr0,pr1⟩:=K.all
 simp only[oneL,sr,csl,ssl,evS,yu_,ys_,nilS,List.cons_append,List.nil_append]
 refine zf_ (fn:=Tryz.f86) 5 190 0 rfl rfl rfl rfl rfl u7_ rfl fun w0 M E hro=>?_
 repeat' (first|refine Ctl.h ?_ |((with_reducible intro hif);first |(focus (cases hif;done)) |((try simp only[JH]at hif);try exact hy_)) |((with_reducible first|apply J22 yf_ za_|apply J23 fol yf_ za_|apply J24);(·rfl);(· exact k73_);(try kernel_rfl);try exact k68_)|fail)
 apply At.endsRet za_ (fn:=Tryz.f86) (rs:=[.cell 6 105,.tmp 7]) Anc.refl hro (lb_ rfl) rfl
 ·exact yl_
 ·exact k6_
 ·exact k7_
 ·rfl
 ·exact k66_
 ·exact k9_
 ·(intro β;rfl)
 ·exact k66_):P:=h
theorem d12_ {P : Prop} (h:P:=by
 have ⟨⟨o0,o1,a0,a1,b0,b1,c0,c1,n0,n1⟩,a2,b2,c2,at0,at1,dr0,dr1,⟨ga0,ga1⟩,⟨gb0,gb1⟩,⟨gc0,gc1⟩,hb,hcl,tm0,tm1,pr0,pr1⟩:=K.all
 simp only[oneL,sr,csl,ssl,evS,yu_,ys_,nilS,List.cons_append,List.nil_append]
 refine zf_ (fn:=Tryz.f86) 5 190 0 rfl rfl rfl rfl rfl u7_ rfl fun w0 M E hro=>?_
 repeat' (first|refine Ctl.h ?_ |((with_reducible intro hif);first |(focus (cases hif;done)) |((try simp only[JH]at hif);try exact hy_)) |((with_reducible first|apply J22 yf_ za_|apply J23 fol yf_ za_|apply J24);(·rfl);(· exact k73_);(try kernel_rfl);try exact k68_)|fail)
 apply At.endsRet za_ (fn:=Tryz.f86) (rs:=[.cell 6 105,.tmp 7]) Anc.refl hro (lb_ rfl) rfl
 ·exact yl_
 ·exact k6_
 ·exact k7_
 ·rfl
 ·exact k66_
 ·exact k9_
 ·exact k67_
 ·exact k66_):P:=h
end Go.Proofs.YtjliakjbdcplcaaGreat.Vm
end
section
namespace Go.Proofs.YtjliakjbdcplcaaGreat.Vm
theorem lb_ {m n:Nat}(h:Nat.ble m n=true):m≤n:=Nat.le_of_ble_eq_true h
end Go.Proofs.YtjliakjbdcplcaaGreat.Vm
end
set_option linter.unusedSimpArgs false
set_option linter.unusedVariables false
section
namespace Go.Proofs.YtjliakjbdcplcaaGreat.Vm
theorem u1_ {P:Prop}(h:P:=by first|exact⟨_,rfl,fun β _ _=>rfl⟩|exact⟨_,rfl,fun β _ _=>by rw[carry_zero1]⟩):P:=h
theorem u2_ {P:Prop}(h:P:=by simp only[ze_,zc_,hp];simp[HB.born]):P:=h
theorem u3_ {P:Prop}(h:P:=by simp only[ze_,zc_,hp,zp_,prS,yu_,zo_,sndS];simp[HB.born]):P:=h
theorem u4_ {P:Prop}(h:P:=by simp only[ze_,zc_,hp,zp_,bO,HB.stable];simp[HB.born]):P:=h
theorem u5_ {P:Prop}(h:P:=by simp only[ze_,zc_,hp,zp_,bO,upS,HB.stable];simp[HB.born]):P:=h
theorem u6_ {P:Prop}(h:P:=by simp only[ze_,zc_,hp,zp_,u64S,HB.stable];simp[HB.born]):P:=h
theorem u7_ {P:Prop}(h:P:=by simp only[ze_,zc_,hp,zp_,prS,yu_,zo_,sndS,evS,sr,csl,ssl];simp[HB.born]):P:=h
theorem u8_ {P:Prop}(h:P:=by simp only[ze_,zc_,hp,zp_,prS,yu_,zo_,sndS,evS,sr];simp[HB.born]):P:=h
theorem u9_ {P:Prop}(h:P:=by rw[Evi.rightB];exact decide_eq_false (by omega)):P:=h
theorem u10_ {P:Prop}(h:P:=by rw[Evi.rightB,decide_eq_true (by omega)];decide):P:=h
theorem u11_ {P:Prop}(h:P:=by rw[Sta.rightB];exact decide_eq_false (by omega)):P:=h
theorem u12_ {P:Prop}(h:P:=by simp only[ze_,zc_,hp,zp_,prS,yu_,zo_,sndS,stS,evS,macS];simp[HB.born,mB,cB,sB]):P:=h
theorem u13_ {P:Prop}(h:P:=by simp only[ze_,zc_,hp,zp_,prS,yu_,zo_,sndS,evS,sr,csl,ssl,ys_,nilS,cRf,sRf,trO];simp[HB.born]):P:=h
theorem u14_ {P:Prop}(h:P:=by simp only[ze_,zc_,hp,zp_,prS,yu_,zo_,sndS,stS,evS,macS];simp[HB.born]):P:=h
theorem u15_ {P:Prop}(h:P:=by simp only[ze_,zc_,hp,zp_,prS,yu_,zo_,sndS,evS,sr,csl,ssl,ys_,nilS,cRf,sRf,trO,prT,cB,sB,HB.stable];simp[HB.born]):P:=h
theorem u16_ {P:Prop}(h:P:=by simp only[ze_,zc_,hp,zp_,prS,yu_,zo_,sndS,stS,evS,macS,mB,cB,sB,HB.stable];simp[HB.born]):P:=h
theorem u17_ {P:Prop}(h:P:=by simp only[ze_,zc_,hp,zp_,prS,yu_,zo_,sndS,stS,evS,macS,mB,cB,sB,eB,prO,HB.stable];simp[HB.born]):P:=h
theorem u18_ {P:Prop}(h:P:=by simp only[ze_,zc_,hp,zp_,prS,yu_,zo_,sndS,stS,evS,macS,mB,cB,sB,eS,prO,prR,HB.stable];simp[HB.born]):P:=h
theorem u19_ {P:Prop}(h:P:=by simp only[ze_,zc_,hp,zp_,prS,yu_,zo_,sndS,stS,evS,macS,mB,cB,sB,eB,prO,prR,HB.stable];simp[HB.born]):P:=h
theorem u20_ {P:Prop}(h:P:=by simp only[ze_,zc_,hp,zp_,prS,yu_,zo_,sndS,stS,evS,macS,mB,cB,sB,eB,prO,prR,pbB,fbB,HB.stable];simp[HB.born]):P:=h
theorem u21_ {P:Prop}(h:P:=by simp only[ze_,zc_,hp,zp_,prS,yu_,zo_,sndS,stS,evS,macS,mB,cB,sB,eB,prO,prR,pbB,fbB,rB,rvS,HB.stable];simp[HB.born,rB,rvS]):P:=h
theorem u22_ {P:Prop}(h:P:=by simp only[ze_,zc_,hp,zp_,prS,yu_,zo_,sndS,stS,evS,macS,mB,cB,sB,eB,prO,prR,pbB,fbB,rB,rvS,HB.stable];simp[HB.born,rB,rvS,eB,mB,cB,sB,prO]):P:=h
theorem u23_ {P:Prop}(h:P:=by simp only[ze_,zc_,hp,zp_,prS,yu_,zo_,sndS,stS,evS,macS,mB,cB,sB,eB,prO,prR,pbB,fbB,rB,rvS,clA,clB,clC,fsS,HB.stable];simp[HB.born]):P:=h
theorem u24_ {P:Prop}(h:P:=by simp only[ze_,zc_,hp,zp_,prS,yu_,zo_,sndS,evS,sr,ys_,nilS,cRf,sRf,trO,prT,cB,sB,prO,HB.stable];simp[HB.born]):P:=h
theorem u25_ {P:Prop}(h:P:=by simp only[ze_,zc_,hp,zp_,prS,yu_,zo_,sndS,evS,sr,csl,ssl,stS,macS,mB,eB,rB,clA,clB,clC,ys_,nilS,cRf,sRf,trO,prT,cB,sB,prO,HB.stable];simp[HB.born]):P:=h
theorem u26_ {P:Prop}(h:P:=by simp only[ze_,zc_,hp,zp_,prS,yu_,zo_,sndS,stS,evS,macS,zE,zEB,HB.stable];simp[HB.born,zEB,zE]):P:=h
theorem k1_ {P:Prop}(h:P:=by rw[List.length_append,clL_length,ho,hl];rfl):P:=h
theorem k2_ {P:Prop}(h:P:=by rw[yj_ hj];exact HB.stable_more (R.st j) born):P:=h
theorem k3_ {P:Prop}(h:P:=by rename_i q;intro hf hc;obtain⟨q1,q2,q3,q4⟩:=hc;exact⟨by omega,by omega,by omega,fun t=>by omega,by omega⟩):P:=h
theorem k4_ {P:Prop}(h:P:=by rename_i q;intro hf hc;obtain⟨q1,q2,q3,q4,q5⟩:=hc;exact⟨by omega,by omega,by omega,fun t=>by omega,by omega⟩):P:=h
theorem k5_ {P:Prop}(h:P:=by simp only[push_cast,↓JP,Nat.reduceAdd,Nat.reduceEqDiff,Nat.reduceLT,Nat.reduceMul,Nat.reduceLeDiff,reduceCtorEq,reduceIte,resV,resV1];rfl):P:=h
theorem k6_ {P:Prop}(h:P:=by(first|trivial |(simp only[and_self];done))):P:=h
theorem k7_ {P:Prop}(h:P:=by(repeat' (first|exact trivial|exact .same _|exact .dead _|exact .gone rfl|exact .loose|assumption|exact .arr (by assumption)|apply And.intro))):P:=h
theorem k8_ {P:Prop}(h:P:=by(repeat' (first|exact trivial|exact rfl|assumption|apply zc_.ite|apply And.intro|intro _ |(simp only[zc_,ze_,zp_,prS,yu_,zo_,sndS];done)))):P:=h
theorem k9_ {P:Prop}(h:P:=by(repeat' (first|exact trivial|exact .inl rfl|exact .inr rfl|exact rfl|apply And.intro))):P:=h
theorem we_ {P:Prop}(h:P:=by((repeat' (first|exact trivial|apply And.intro))<;>(first|rfl |(simp only[look,cond_true,cond_false];done)))):P:=h
theorem k11_ {P:Prop}(h:P:=by refine⟨⟨by omega,fun q hq'=>?_⟩,by omega⟩;by_cases e:q=j;(rw[e];exact hq);exact heq q (by omega)):P:=h
theorem yr_ {P:Prop}(h:P:=by(first|exact True.intro |((try simp only[JS,implies_true,forall_const,yc_,z7_,x4_]);(repeat' (first|assumption|exact True.intro|omega|apply And.intro));done))):P:=h
theorem k13_ {P:Prop}(h:P:=by(simp only[push_cast,↓JP,Nat.reduceAdd,Nat.reduceEqDiff,Nat.reduceLT,Nat.reduceMul,Nat.reduceLeDiff,reduceCtorEq,reduceIte];rfl)):P:=h
theorem k14_ {P:Prop}(h:P:=by(first|exact True.intro |((try simp only[JS,implies_true,forall_const,yc_,z7_,x4_,inN]);(repeat' (first|assumption|exact True.intro|omega|apply And.intro));done))):P:=h
theorem k15_ {P:Prop}(h:P:=by(first|exact True.intro |((try simp only[JS,implies_true,forall_const,yc_,z7_,x4_,inR,inN]);(repeat' (first|assumption|exact True.intro|omega|apply And.intro));done))):P:=h
theorem k16_ {P:Prop}(h:P:=by(simp only[push_cast,↓JP,Nat.reduceAdd,Nat.reduceEqDiff,Nat.reduceLT,Nat.reduceMul,Nat.reduceLeDiff,reduceCtorEq,reduceIte,hjl,hc,inR,inN];rfl)):P:=h
theorem k17_ {P:Prop}(h:P:=by(simp only[push_cast,↓JP,Nat.reduceAdd,Nat.reduceEqDiff,Nat.reduceLT,Nat.reduceMul,Nat.reduceLeDiff,reduceCtorEq,reduceIte,hjl];rfl)):P:=h
theorem yl_ {P:Prop}(h:P:=by simp only[push_cast,↓JP,Nat.reduceAdd,Nat.reduceEqDiff,Nat.reduceLT,Nat.reduceMul,Nat.reduceLeDiff,reduceCtorEq,reduceIte,↓JK,resV,resV1];rfl):P:=h
theorem k19_ {P:Prop}(h:P:=by refine⟨⟨hkl,fun i hi y hy=>?_⟩,by omega⟩;by_cases h:i=k;(subst h;rw[hx2]at hy;cases hy;exact eb);exact hB i (by omega) y hy):P:=h
theorem k20_ {P:Prop}(h:P:=by(simp only[push_cast,↓JP,Nat.reduceAdd,Nat.reduceEqDiff,Nat.reduceLT,Nat.reduceMul,Nat.reduceLeDiff,reduceCtorEq,reduceIte,↓JK];rfl)):P:=h
theorem k21_ {P:Prop}(h:P:=by(simp only[push_cast,↓JP,Nat.reduceAdd,Nat.reduceEqDiff,Nat.reduceLT,Nat.reduceMul,Nat.reduceLeDiff,reduceCtorEq,reduceIte,↓JK,h0,h256];rfl)):P:=h
theorem k22_ {P:Prop}(h:P:=by(first|exact True.intro |((try simp only[JS,implies_true,forall_const,yc_,z7_,x4_,inR,inN]);(first|first|omega|assumption |(repeat' (first|assumption|exact True.intro|omega|apply And.intro)));done))):P:=h
theorem k23_ {P:Prop}(h:P:=by(simp only[push_cast,↓JP,Nat.reduceAdd,Nat.reduceEqDiff,Nat.reduceLT,Nat.reduceMul,Nat.reduceLeDiff,reduceCtorEq,reduceIte,↓JK,evm_in1,cRCk,sROne,sRTarg,sRGoes,hkl,hx,he,ht,hv,inR,inN];rfl)):P:=h
theorem k24_ {P:Prop}(h:P:=by(simp only[push_cast,↓JP,Nat.reduceAdd,Nat.reduceEqDiff,Nat.reduceLT,Nat.reduceMul,Nat.reduceLeDiff,reduceCtorEq,reduceIte,↓JK,evm_in1,cRCk,sROne,sRTarg,sRGoes,hkl,hx,hg,hlm,inR,inN];rfl)):P:=h
theorem yq_ {P:Prop}(h:P:=by(repeat' (first|exact trivial|exact rfl|assumption|apply zc_.ite|apply And.intro|intro _ |(simp only[zc_,ze_,zp_,bO,HB.stable];done)))):P:=h
theorem k26_ {P:Prop}(h:P:=by exact⟨⟨by dsimp only;omega,by dsimp only;exact hA',by dsimp only;omega,by dsimp only;omega⟩,by dsimp only;omega⟩):P:=h
theorem k27_ {P:Prop}(h:P:=by(repeat' (first|exact trivial|exact .inl rfl|exact .inr (.same _)|exact .inr .loose|exact .inr (.arr (by assumption))|apply And.intro |(exact .inr (less_apB _ _ hTl hU rfl (fun β=>rfl)))))):P:=h
theorem k28_ {P:Prop}(h:P:=by(repeat' (first|exact trivial|exact⟨_,rfl,fun β=>rfl⟩|apply And.intro|exact⟨_,rfl,hden⟩))):P:=h
theorem xz_ {P:Prop}(h:P:=by(focus (first|exact True.intro |((try simp only[JS,implies_true,forall_const,yc_,z7_,x4_]);(repeat' (first|assumption|exact True.intro|omega|apply And.intro));done)))):P:=h
theorem k30_ {P:Prop}(h:P:=by refine⟨u1_,u1_,u1_,⟨_,rfl,fun β h0 hx=>(nilB_cl h0 (show β 5=(none,0) from hx) 1).symm⟩,u1_,trivial⟩):P:=h
theorem k31_ {P:Prop}(h:P:=by(repeat' (first|exact trivial|exact .inl rfl|exact .inr (.same _)|exact .inr .loose|exact .inr (.arr (by assumption))|apply And.intro |(simp only[bO,hlZ,hTk];exact .inr (.same _))))):P:=h
theorem k32_ {P:Prop}(h:P:=by(repeat' (first|exact trivial|exact⟨_,rfl,fun β=>rfl⟩|apply And.intro))):P:=h
theorem k33_ {P:Prop}(h:P:=by((repeat' (first|exact trivial|apply And.intro))<;>(first|rfl |(rw[hz0];rfl)))):P:=h
theorem k34_ {P:Prop}(h:P:=by(first|exact True.intro |((repeat' (first|exact True.intro|apply And.intro|omega|exact(tdB (by omega) (by omega)).1|exact(tdB (by omega) (by omega)).2|decide));done) |((try simp only[JS,implies_true,forall_const,yc_,z7_,x4_,inR,inN]);(repeat' (first|assumption|exact True.intro|omega|apply And.intro));done))):P:=h
theorem k35_ {P:Prop}(h:P:=by(simp only[push_cast,↓JP,Nat.reduceAdd,Nat.reduceEqDiff,Nat.reduceLT,Nat.reduceMul,Nat.reduceLeDiff,reduceCtorEq,reduceIte,hjl,hx,hy,zp_,inR,inN,List.all_cons,List.all_nil];rfl)):P:=h
theorem k36_ {P:Prop}(h:P:=by(first|exact True.intro |((repeat' (first|exact True.intro|apply And.intro|omega|decide));done) |((try simp only[JS,implies_true,forall_const,yc_,z7_,x4_,inR,inN]);(repeat' (first|assumption|exact True.intro|omega|apply And.intro));done))):P:=h
theorem k37_ {P:Prop}(h:P:=by(first|exact True.intro |((repeat' (first|exact True.intro|apply And.intro|omega|decide |(simp only[IntKind.bits];omega) |(simp only[inN];omega)));done) |((try simp only[JS,implies_true,forall_const,yc_,z7_,x4_,inR,inN]);(repeat' (first|assumption|exact True.intro|omega|apply And.intro));done))):P:=h
theorem k38_ {P:Prop}(h:P:=by(repeat' (first|exact trivial|exact rfl|assumption|apply zc_.ite|apply And.intro|intro _ |(simp only[zc_,ze_,zp_,bO,upS,HB.stable];done)))):P:=h
theorem k39_ {P:Prop}(h:P:=by simp only[if_true,BitVec.getLsbD_not,BitVec.getLsbD_ushiftRight,BitVec.getLsbD_allOnes,hi,decide_true,decide_false,Bool.true_and,Nat.add_comm n i,h,Bool.not_true,Bool.not_false,Bool.or_false,Bool.or_true]):P:=h
theorem k40_ {P:Prop}(h:P:=by(repeat' (first|exact trivial|exact .inl rfl|exact .inr (.same _)|exact .inr .loose|exact .inr (.arr (by assumption))|apply And.intro))):P:=h
theorem k41_ {P:Prop}(h:P:=by refine⟨⟨hkl,fun q h1 h2=>?_⟩,by omega⟩;by_cases e:q=63 - k;(rw[e,b1,b2]);exact hq q (by omega) h2):P:=h
theorem k42_ {P:Prop}(h:P:=by(repeat' (first|exact trivial|exact .inl rfl|exact .inr (.same _)|exact .inr .loose|exact .inr (.arr (by assumption))|apply And.intro |(rw[e];exact .inr (.same _))))):P:=h
theorem k43_ {P:Prop}(h:P:=by(repeat' (first|exact trivial|exact⟨_,rfl,fun β=>rfl⟩|apply And.intro |(rw[e];exact⟨_,rfl,fun β=>rfl⟩)))):P:=h
theorem k44_ {P:Prop}(h:P:=by(simp only[push_cast,↓JP,Nat.reduceAdd,Nat.reduceEqDiff,Nat.reduceLT,Nat.reduceMul,Nat.reduceLeDiff,reduceCtorEq,reduceIte,hk0,hkt,hx,hy,zp_,inR,inN];rfl)):P:=h
theorem k45_ {P:Prop}(h:P:=by(simp only[push_cast,↓JP,Nat.reduceAdd,Nat.reduceEqDiff,Nat.reduceLT,Nat.reduceMul,Nat.reduceLeDiff,reduceCtorEq,reduceIte,hk0];rfl)):P:=h
theorem k46_ {P:Prop}(h:P:=by(first|exact True.intro |((try simp only[and_self,true_and,and_true,implies_true,forall_const,xj_,xu_,ls_i64B,ls_zB,zb_,vb_bl,Nat.zero_add,iOf]);(repeat' (first|exact True.intro|apply And.intro|rfl|omega|assumption |(exact .inl rfl) |(exact .inr rfl)|decide|intro _));done) |((try simp only[JS,implies_true,forall_const,yc_,z7_,x4_,inR,inN]);(repeat' (first|assumption|exact True.intro|omega|apply And.intro));done))):P:=h
theorem k47_ {P:Prop}(h:P:=by(repeat' (first|exact trivial|exact rfl|assumption|exact hst _ _|exact hst1 _ _|exact hst2 _ _|apply zc_.ite|apply And.intro|intro _ |(simp only[zc_,ze_,zp_,bO,HB.stable];done)))):P:=h
theorem k48_ {P:Prop}(h:P:=by(repeat' (first|exact trivial|exact .inl rfl|exact .inr (.same _)|exact .inr .loose|exact .inr (.arr (by assumption))|apply And.intro |(exact .inr (less_q1 _ k hkl eq rfl (fun β=>rfl))) |(rw[eR2];exact .inr (.same _))))):P:=h
theorem k49_ {P:Prop}(h:P:=by(repeat' (first|exact trivial|exact⟨_,rfl,fun β=>rfl⟩|apply And.intro |(first|exact⟨_,rfl,hden⟩ |(rw[eR2];exact⟨_,rfl,fun β=>rfl⟩))))):P:=h
theorem k50_ {P:Prop}(h:P:=by(first|exact True.intro |((try simp only[and_self,true_and,and_true,implies_true,forall_const,xj_,xu_,ls_i64B,ls_i64U,ls_zB,zb_,vb_bl,it_one,hR1,hR1u,Nat.zero_add,iOf]);(repeat' (first|exact True.intro|apply And.intro|rfl|omega|assumption |(exact .inl rfl) |(exact .inr rfl)|decide|intro _));done) |((try simp only[JS,implies_true,forall_const,yc_,z7_,x4_,inR,inN]);(repeat' (first|assumption|exact True.intro|omega|apply And.intro));done))):P:=h
theorem k51_ {P:Prop}(h:P:=by(simp only[push_cast,↓JP,Nat.reduceAdd,Nat.reduceEqDiff,Nat.reduceLT,Nat.reduceMul,Nat.reduceLeDiff,reduceCtorEq,reduceIte,cDiv,sRUp,sRSum,sRNot,sRLess,bO,hk0,hkt,hx,ht1,hlt,hR1,hR1u,zu_,zt_,iOf,xu_,xj_,ls_i64B,ls_i64U,vb_bl,sumV_sub,ed,zp_,qS_size,it_one,Int.toNat_natCast,nat_one_i,inR,inN];rfl)):P:=h
theorem k52_ {P:Prop}(h:P:=by(first|exact True.intro |((try simp only[and_self,true_and,and_true,implies_true,forall_const,xj_,xu_,ls_i64B,ls_i64U,ls_zB,zb_,vb_bl,Nat.zero_add,iOf,hn0,hn1,hq]);(repeat' (first|exact True.intro|apply And.intro|rfl|omega|assumption |(exact .inl rfl) |(exact .inr rfl)|decide|intro _));done) |((try simp only[JS,implies_true,forall_const,yc_,z7_,x4_]);(repeat' (first|assumption|exact True.intro|omega|apply And.intro));done))):P:=h
theorem k53_ {P:Prop}(h:P:=by(simp only[push_cast,↓JP,Nat.reduceAdd,Nat.reduceEqDiff,Nat.reduceLT,Nat.reduceMul,Nat.reduceLeDiff,reduceCtorEq,reduceIte,cApp,hX,hY,hP,hQ,hQm,hQd,hy0,hy1,hy2,hy3,hy4,hy5,hn,ed,ed0,Int.cast_ofNat_Int,(eq_true h0)];rfl)):P:=h
theorem k54_ {P:Prop}(h:P:=by(simp only[push_cast,↓JP,Nat.reduceAdd,Nat.reduceEqDiff,Nat.reduceLT,Nat.reduceMul,Nat.reduceLeDiff,reduceCtorEq,reduceIte,cApp,hX,hY,hP,hQ,hQm,hQd,hy0,hy1,hy2,hy3,hy4,hy5,hn,ed,ed0,Int.cast_ofNat_Int,h0];rfl)):P:=h
theorem k55_ {P:Prop}(h:P:=by(simp only[push_cast,↓JP,Nat.reduceAdd,Nat.reduceEqDiff,Nat.reduceLT,Nat.reduceMul,Nat.reduceLeDiff,reduceCtorEq,reduceIte,cApp,hX,hY,hP,hQ,hQm,hQd,hy0,hy1,hy2,hy3,hy4,hy5,hn,ed,ed0,Int.cast_ofNat_Int,h0,h1,h2,bne_self_eq_false,Bool.bne_true,Bool.bne_false,Bool.true_bne,Bool.false_bne];rfl)):P:=h
theorem k56_ {P:Prop}(h:P:=by(simp only[push_cast,↓JP,Nat.reduceAdd,Nat.reduceEqDiff,Nat.reduceLT,Nat.reduceMul,Nat.reduceLeDiff,reduceCtorEq,reduceIte,hX,hY,hP,hQ,hQm,hQd,hy0,hy1,hy2,hy3,hy4,hy5,hn,Int.cast_ofNat_Int,h0,h1];rfl)):P:=h
theorem k57_ {P:Prop}(h:P:=by(simp only[push_cast,↓JP,Nat.reduceAdd,Nat.reduceEqDiff,Nat.reduceLT,Nat.reduceMul,Nat.reduceLeDiff,reduceCtorEq,reduceIte,hX,hY,hP,hQ,hQm,hQd,hy0,hy1,hy2,hy3,hy4,hy5,hn,Int.cast_ofNat_Int,(eq_true h0)];rfl)):P:=h
theorem k58_ {P:Prop}(h:P:=by(simp only[push_cast,↓JP,Nat.reduceAdd,Nat.reduceEqDiff,Nat.reduceLT,Nat.reduceMul,Nat.reduceLeDiff,reduceCtorEq,reduceIte,hX,hY,hP,hQ,hQm,hQd,hy0,hy1,hy2,hy3,hy4,hy5,hn,Int.cast_ofNat_Int,h0];rfl)):P:=h
theorem k59_ {P:Prop}(h:P:=by(repeat' (first|exact trivial|exact rfl|assumption|apply zc_.ite|apply And.intro|intro _ |(simp only[zc_,ze_,zp_];done)))):P:=h
theorem k60_ {P:Prop}(h:P:=by((repeat' (first|exact trivial|apply And.intro))<;>(first|rfl |(first|rfl |(rw[hmn];rfl))))):P:=h
theorem k61_ {P:Prop}(h:P:=by(simp only[push_cast,↓JP,Nat.reduceAdd,Nat.reduceEqDiff,Nat.reduceLT,Nat.reduceMul,Nat.reduceLeDiff,reduceCtorEq,reduceIte,hX,hY,hP,hQ,hQm,hQd,hy0,hy1,hy2,hy3,hy4,hy5,hn,Int.cast_ofNat_Int,(eq_true h0),h6];rfl)):P:=h
theorem k62_ {P:Prop}(h:P:=by(simp only[push_cast,↓JP,Nat.reduceAdd,Nat.reduceEqDiff,Nat.reduceLT,Nat.reduceMul,Nat.reduceLeDiff,reduceCtorEq,reduceIte,hX,hY,hP,hQ,hQm,hQd,hy0,hy1,hy2,hy3,hy4,hy5,hn,Int.cast_ofNat_Int,h0,h6];rfl)):P:=h
theorem k63_ {P:Prop}(h:P:=by(simp only[push_cast,↓JP,Nat.reduceAdd,Nat.reduceEqDiff,Nat.reduceLT,Nat.reduceMul,Nat.reduceLeDiff,reduceCtorEq,reduceIte,hX,hY,hP,hQ,hQm,hQd,hy0,hy1,hy2,hy3,hy4,hy5,hn,Int.cast_ofNat_Int,(eq_true h0),h1];rfl)):P:=h
theorem k64_ {P:Prop}(h:P:=by(repeat' (first|exact trivial|exact rfl|assumption|apply zc_.ite|apply And.intro|intro _ |(simp only[zc_,ze_,zp_,u64S,HB.stable];done)))):P:=h
theorem k65_ {P:Prop}(h:P:=by(first|exact True.intro |((repeat' (first|exact True.intro|apply And.intro|rfl|omega|decide|intro _));done) |((try simp only[JS,implies_true,forall_const,yc_,z7_,x4_,inR,inN]);(repeat' (first|assumption|exact True.intro|omega|apply And.intro));done))):P:=h
theorem k66_ {P:Prop}(h:P:=by(repeat' (first|exact trivial|exact rfl|assumption|apply zc_.ite|apply And.intro|intro _ |(simp only[zc_,ze_,zp_,prS,yu_,zo_,sndS,evS,sr,csl,ssl];done)))):P:=h
theorem k67_ {P:Prop}(h:P:=by(intro β;refine st_den ?_ ?_ (fun q hq=>?_) ?_ ?_ ?_ ?_;all_goals first|rfl |(by_cases hq2:q=x.a.toNat;(try rw[xk_]);(simp only[hq2,decide_true,cond_true,Sta.put,if_true];try rfl);(try rw[xk_]);(simp only[hq2,decide_false,cond_false,Sta.put,if_false];try rfl)))):P:=h
theorem k68_ {P:Prop}(h:P:=by(first|exact True.intro |((repeat' (first|exact True.intro|apply And.intro|rfl|omega|assumption|decide |(simp only[List.length_append,List.length_set,List.length_cons,List.length_nil];omega)|intro _));done) |((try simp only[JS,implies_true,forall_const,yc_,z7_,x4_]);(repeat' (first|assumption|exact True.intro|omega|apply And.intro));done))):P:=h
theorem k69_ {P:Prop}(h:P:=by(simp only[push_cast,↓JP,Nat.reduceAdd,Nat.reduceEqDiff,Nat.reduceLT,Nat.reduceMul,Nat.reduceLeDiff,reduceCtorEq,reduceIte,↓JK,cOne,sr,csl,ssl,oneL,Int.cast_ofNat_Int,ho];rfl)):P:=h
theorem k70_ {P:Prop}(h:P:=by(simp only[push_cast,↓JP,Nat.reduceAdd,Nat.reduceEqDiff,Nat.reduceLT,Nat.reduceMul,Nat.reduceLeDiff,reduceCtorEq,reduceIte,↓JK,cOne,sr,csl,ssl,oneL,Int.cast_ofNat_Int,ho,h1];rfl)):P:=h
theorem k71_ {P:Prop}(h:P:=by(simp only[push_cast,↓JP,Nat.reduceAdd,Nat.reduceEqDiff,Nat.reduceLT,Nat.reduceMul,Nat.reduceLeDiff,reduceCtorEq,reduceIte,↓JK,cOne,sr,csl,ssl,oneL,Int.cast_ofNat_Int,ho,h1,h2];rfl)):P:=h
theorem k72_ {P:Prop}(h:P:=by(repeat' (first|exact trivial|exact rfl|assumption|apply zc_.ite|apply And.intro|intro _ |(simp only[zc_,ze_,zp_,prS,yu_,zo_,sndS,evS,sr,csl,ssl,ys_,nilS];done)))):P:=h
theorem k73_ {P:Prop}(h:P:=by(simp only[push_cast,↓JP,Nat.reduceAdd,Nat.reduceEqDiff,Nat.reduceLT,Nat.reduceMul,Nat.reduceLeDiff,reduceCtorEq,reduceIte,↓JK,Int.cast_ofNat_Int,ho,h1];rfl)):P:=h
theorem k74_ {P:Prop}(h:P:=by(simp only[push_cast,↓JP,Nat.reduceAdd,Nat.reduceEqDiff,Nat.reduceLT,Nat.reduceMul,Nat.reduceLeDiff,reduceCtorEq,reduceIte,↓JK,Int.cast_ofNat_Int,ho,h1,h2,h3,h4];rfl)):P:=h
theorem k75_ {P:Prop}(h:P:=by(simp only[push_cast,↓JP,Nat.reduceAdd,Nat.reduceEqDiff,Nat.reduceLT,Nat.reduceMul,Nat.reduceLeDiff,reduceCtorEq,reduceIte,↓JK,Int.cast_ofNat_Int,ho,(show ¬x.op=1 by omega),(show ¬x.op=2 by omega),(show ¬x.op=3 by omega),(show ¬x.op=4 by omega),(show ¬x.op=5 by omega),(show ¬x.op=6 by omega),(show ¬x.op=7 by omega),(show ¬x.op=8 by omega),(show ¬x.op=9 by omega),(show ¬x.op=10 by omega),(show ¬x.op=11 by omega),h1];rfl)):P:=h
theorem k76_ {P:Prop}(h:P:=by(repeat' (first|exact trivial|exact rfl|assumption|apply zc_.ite|apply And.intro|intro _ |(simp only[zc_,ze_,zp_,prS,yu_,zo_,sndS,evS,sr];done)))):P:=h
theorem xg_ {P:Prop}(h:P:=by(repeat' (first|exact trivial|exact rfl|assumption|apply zc_.ite|apply And.intro|intro _ |(simp only[zc_,ze_,zp_,prS,yu_,zo_,sndS,stS,evS,macS];done)))):P:=h
theorem k78_ {P:Prop}(h:P:=by(first|exact True.intro |((try simp only[lsI_raw]);(repeat' (first|exact True.intro|apply And.intro|rfl|omega|assumption|decide |(exact fun q hq=>rfl)|intro _));done) |((try simp only[JS,implies_true,forall_const,yc_,z7_,x4_]);(repeat' (first|assumption|exact True.intro|omega|apply And.intro));done))):P:=h
theorem k79_ {P:Prop}(h:P:=by(simp only[push_cast,↓JP,Nat.reduceAdd,Nat.reduceEqDiff,Nat.reduceLT,Nat.reduceMul,Nat.reduceLeDiff,reduceCtorEq,reduceIte,↓JK,cRt,lsI_raw,Int.cast_ofNat_Int,(eq_true h0),h1,h2,h3,h4,h5,h6,h7,h8,h9,h10,h11];rfl)):P:=h
theorem k80_ {P:Prop}(h:P:=by(first|exact True.intro |((try simp only[JS,implies_true,forall_const,yc_,z7_,x4_,inR]);(repeat' (first|assumption|exact True.intro|omega|apply And.intro));done))):P:=h
theorem k81_ {P:Prop}(h:P:=by(simp only[push_cast,↓JP,Nat.reduceAdd,Nat.reduceEqDiff,Nat.reduceLT,Nat.reduceMul,Nat.reduceLeDiff,reduceCtorEq,reduceIte,↓JK,JM,inR];rfl)):P:=h
theorem k82_ {P:Prop}(h:P:=by(simp only[push_cast,↓JP,Nat.reduceAdd,Nat.reduceEqDiff,Nat.reduceLT,Nat.reduceMul,Nat.reduceLeDiff,reduceCtorEq,reduceIte,↓JK,JM,inR,inN,Bool.cond_decide];rfl)):P:=h
theorem k83_ {P:Prop}(h:P:=by(repeat' (first|exact trivial|exact .inl rfl|exact .inr (.same _)|exact .inr .loose|exact .inr (.arr (by assumption))|apply And.intro |(exact .inr (.same _)) |(refine .inr (less_mac _ _ _ ?_ ?_ ?_ ?_ ?_ ?_ ?_ ?_)<;>first|rfl |(intro q _ β;rfl)|omega|simp) |(refine .inr (less_set _ _ _ ?_ ?_)<;>first|rfl |(intro q _ β;rfl)|omega|simp)))):P:=h
theorem k84_ {P:Prop}(h:P:=by(repeat' (first|exact trivial|exact .inl rfl|exact .inr (.same _)|exact .inr .loose|exact .inr (.arr (by assumption))|apply And.intro |(exact .inr (.same _)) |(refine .inr (less_mac _ _ _ ?_ ?_ ?_ ?_ ?_ ?_ ?_ ?_)<;>first|rfl |(intro q _ β;rfl)|omega|simp) |(refine .inr (less_set _ _ _ ?_ ?_)<;>first|rfl |(intro q _ β;rfl)|omega|simp) |(exact .inr (hY _))))):P:=h
theorem k85_ {P:Prop}(h:P:=by(simp only[push_cast,↓JP,Nat.reduceAdd,Nat.reduceEqDiff,Nat.reduceLT,Nat.reduceMul,Nat.reduceLeDiff,reduceCtorEq,reduceIte,↓JK,cM1,sDraw,JE,Bool.cond_decide];rfl)):P:=h
theorem k86_ {P:Prop}(h:P:=by(simp only[push_cast,↓JP,Nat.reduceAdd,Nat.reduceEqDiff,Nat.reduceLT,Nat.reduceMul,Nat.reduceLeDiff,reduceCtorEq,reduceIte,↓JK,cM1,sDraw,JE,Bool.cond_decide,decide_eq_true_eq];rfl)):P:=h
theorem k87_ {P:Prop}(h:P:=by(simp only[push_cast,↓JP,Nat.reduceAdd,Nat.reduceEqDiff,Nat.reduceLT,Nat.reduceMul,Nat.reduceLeDiff,reduceCtorEq,reduceIte,↓JK,cM1,sDraw,JE,Bool.cond_decide,h1,h2];rfl)):P:=h
theorem k88_ {P:Prop}(h:P:=by(simp only[push_cast,↓JP,Nat.reduceAdd,Nat.reduceEqDiff,Nat.reduceLT,Nat.reduceMul,Nat.reduceLeDiff,reduceCtorEq,reduceIte,↓JK,cM1,sDraw,JE,Bool.cond_decide,hw];rfl)):P:=h
theorem k89_ {P:Prop}(h:P:=by(simp only[push_cast,↓JP,Nat.reduceAdd,Nat.reduceEqDiff,Nat.reduceLT,Nat.reduceMul,Nat.reduceLeDiff,reduceCtorEq,reduceIte,↓JK,cM1,sDraw,JE,Bool.cond_decide,q0,q1];rfl)):P:=h
theorem k90_ {P:Prop}(h:P:=by(first|exact True.intro |((try simp only[JS,implies_true,forall_const,yc_,z7_,x4_]);(first|first|omega|exact⟨R,S⟩ |(repeat' (first|assumption|exact True.intro|omega|apply And.intro)));done))):P:=h
theorem k91_ {P:Prop}(h:P:=by(simp only[push_cast,↓JP,Nat.reduceAdd,Nat.reduceEqDiff,Nat.reduceLT,Nat.reduceMul,Nat.reduceLeDiff,reduceCtorEq,reduceIte,↓JK,cM2,sDraw,JE,Bool.cond_decide,cellF,hcb];rfl)):P:=h
theorem k92_ {P:Prop}(h:P:=by(simp only[push_cast,↓JP,Nat.reduceAdd,Nat.reduceEqDiff,Nat.reduceLT,Nat.reduceMul,Nat.reduceLeDiff,reduceCtorEq,reduceIte,↓JK,Bool.cond_decide,q0,q1,q2,q3];rfl)):P:=h
theorem k93_ {P:Prop}(h:P:=by(repeat' (first|exact trivial|exact .inl rfl|exact .inr (.same _)|exact .inr .loose|exact .inr (.arr (by assumption))|apply And.intro |(exact .inr (.same _)) |(refine .inr (less_mac _ _ _ ?_ ?_ ?_ ?_ ?_ ?_ ?_ ?_)<;>first|rfl |(intro q _ β;rfl)|omega|simp)))):P:=h
theorem k94_ {P:Prop}(h:P:=by(simp only[push_cast,↓JP,Nat.reduceAdd,Nat.reduceEqDiff,Nat.reduceLT,Nat.reduceMul,Nat.reduceLeDiff,reduceCtorEq,reduceIte,↓JK,cD,Bool.cond_decide,kindF_0,kindF_1,kindF_2,kindF_3,kindF_4,kindF_5,kindF_6,kindF_7,kindF_8,kindF_9,kindF_10];rfl)):P:=h
theorem k95_ {P:Prop}(h:P:=by(simp only[push_cast,↓JP,Nat.reduceAdd,Nat.reduceEqDiff,Nat.reduceLT,Nat.reduceMul,Nat.reduceLeDiff,reduceCtorEq,reduceIte,↓JK,cD,Bool.cond_decide,kindF_0,kindF_1,kindF_2,kindF_3,kindF_4,kindF_5,kindF_6,kindF_7,kindF_8,kindF_9,kindF_10,ho];rfl)):P:=h
theorem k96_ {P:Prop}(h:P:=by(simp only[push_cast,↓JP,Nat.reduceAdd,Nat.reduceEqDiff,Nat.reduceLT,Nat.reduceMul,Nat.reduceLeDiff,reduceCtorEq,reduceIte,↓JK,JM,prR,cSt,mS,macP,doF,JE,inR,inN,Bool.cond_decide];rfl)):P:=h
theorem k97_ {P:Prop}(h:P:=by(repeat' (first|exact trivial|exact rfl|assumption|apply zc_.ite|apply And.intro|intro _ |(simp only[zc_,ze_,zp_,prS,yu_,zo_,sndS,evS,sr,ys_,nilS,cRf,sRf,trO];done)))):P:=h
theorem k98_ {P:Prop}(h:P:=by exact⟨H.step hP V rfl hkf xi hxi hE true false _ (by simp[h6]) (by simp[h6]) (congrArg List.length eS),by show f.toNat - (tr.length+1) < f.toNat - tr.length;omega⟩):P:=h
theorem k99_ {P:Prop}(h:P:=by(repeat' (first|exact trivial|exact .inl rfl|exact .inr (.same _)|exact .inr .loose|exact .inr (.arr (by assumption))|apply And.intro |(exact .inr (less_tr1 _ _ rfl (fun β=>rfl))) |(exact .inr (less_i64n eC.symm rfl)) |(exact .inr (less_sndn (congrArg List.length eS).symm eS.symm))))):P:=h
theorem k100_ {P:Prop}(h:P:=by exact⟨H.step hP V rfl hkf xi hxi hE true true _ (by simp[h6]) (by simp[h6]) (congrArg List.length eS),by show f.toNat - (tr.length+1) < f.toNat - tr.length;omega⟩):P:=h
theorem k101_ {P:Prop}(h:P:=by exact⟨H.step hP V rfl hkf xi hxi hE false true _ (by simp[h6,h8]) (by simp[h6,h8]) eS,by show f.toNat - (tr.length+1) < f.toNat - tr.length;omega⟩):P:=h
theorem k102_ {P:Prop}(h:P:=by(repeat' (first|exact trivial|exact .inl rfl|exact .inr (.same _)|exact .inr .loose|exact .inr (.arr (by assumption))|apply And.intro |(exact .inr (less_tr1 _ _ rfl (fun β=>rfl))) |(exact .inr (less_i64n eC.symm eC2.symm)) |(exact .inr (less_sndn eS.symm rfl))))):P:=h
theorem k103_ {P:Prop}(h:P:=by exact⟨H.step hP V rfl hkf xi hxi hE true true _ (by simp[h6,h8]) (by simp[h6,h8]) eS,by show f.toNat - (tr.length+1) < f.toNat - tr.length;omega⟩):P:=h
theorem k104_ {P:Prop}(h:P:=by(repeat' (first|exact trivial|exact .inl rfl|exact .inr (.same _)|exact .inr .loose|exact .inr (.arr (by assumption))|apply And.intro |(exact .inr (less_tr1 _ _ rfl (fun β=>rfl))) |(exact .inr (less_i64n eC.symm eC2.symm)) |(exact .inr (less_sndn (congrArg List.length eS).symm eS.symm))))):P:=h
theorem k105_ {P:Prop}(h:P:=by(repeat' (first|exact trivial|exact rfl|assumption|apply zc_.ite|apply And.intro|intro _ |(simp only[zc_,ze_,zp_,prS,yu_,zo_,sndS,evS,sr,csl,ssl,ys_,nilS,cRf,sRf,trO];done)))):P:=h
theorem k106_ {P:Prop}(h:P:=by(first|exact True.intro |((try simp only[xu_,xj_,ls_sndsS,ls_sndsS',zb_]);(repeat' (first|exact True.intro|exact hK|exact hE|apply And.intro|rfl|omega|assumption|decide|intro _));done) |((try simp only[JS,implies_true,forall_const,yc_,z7_,x4_,inR,inN]);(repeat' (first|assumption|exact True.intro|omega|apply And.intro));done))):P:=h
theorem k107_ {P:Prop}(h:P:=by(first|exact True.intro |((try simp only[JE,iOf,xl_,yz_,hs0',z0_,xw_,zb_]);(repeat' (first|exact True.intro|exact hok|assumption|apply And.intro|rfl|omega|decide|intro _));done) |((try simp only[JS,implies_true,forall_const,yc_,z7_,x4_,inR,inN]);(repeat' (first|assumption|exact True.intro|omega|apply And.intro));done))):P:=h
theorem k108_ {P:Prop}(h:P:=by(repeat' (first|exact trivial|exact rfl|assumption|apply zc_.ite|apply And.intro|intro _ |(simp only[zc_,ze_,zp_,prS,yu_,zo_,sndS,prT,HB.stable];done)))):P:=h
theorem k109_ {P:Prop}(h:P:=by(repeat' (first|exact trivial|exact .inl rfl|exact .inr (.same _)|exact .inr .loose|exact .inr (.arr (by assumption))|apply And.intro |(exact .inr (.same _))))):P:=h
theorem k110_ {P:Prop}(h:P:=by(repeat' (first|exact trivial|exact rfl|assumption|apply zc_.ite|apply And.intro|intro _ |(simp only[zc_,ze_,zp_,prS,yu_,zo_,sndS,prT,cRf,sRf,sr,HB.stable];done)))):P:=h
theorem k111_ {P:Prop}(h:P:=by(simp only[push_cast,↓JP,Nat.reduceAdd,Nat.reduceEqDiff,Nat.reduceLT,Nat.reduceMul,Nat.reduceLeDiff,reduceCtorEq,reduceIte,↓JK,JM,JE,inR,inN];rfl)):P:=h
theorem k112_ {P:Prop}(h:P:=by(simp only[push_cast,↓JP,Nat.reduceAdd,Nat.reduceEqDiff,Nat.reduceLT,Nat.reduceMul,Nat.reduceLeDiff,reduceCtorEq,reduceIte,↓JK,hjl,List.take_length];rfl)):P:=h
theorem x0_ {P:Prop}(h:P:=by(repeat' (first|exact trivial|exact rfl|assumption|apply zc_.ite|apply And.intro|intro _ |(simp only[zc_,ze_,zp_,prS,yu_,zo_,sndS,evS,sr,csl,ssl,ys_,nilS,cRf,sRf,trO,prT,cB,sB,HB.stable];done)))):P:=h
theorem k114_ {P:Prop}(h:P:=by exact⟨⟨hjl,by rw[List.length_set];exact hl⟩,by show c.length - (j+1) < c.length - j;omega⟩):P:=h
theorem k115_ {P:Prop}(h:P:=by(repeat' (first|exact trivial|exact .inl rfl|exact .inr (.same _)|exact .inr .loose|exact .inr (.arr (by assumption))|apply And.intro |(exact .inr (less_iset hl hjl (fun β q=>rfl)))))):P:=h
theorem k116_ {P:Prop}(h:P:=by(repeat' (first|exact trivial|exact rfl|assumption|apply zc_.ite|apply And.intro|intro _ |(simp only[zc_,ze_,zp_,prS,yu_,zo_,sndS,stS,evS,macS,mB,cB,sB,HB.stable];done)))):P:=h
theorem k117_ {P:Prop}(h:P:=by(simp only[push_cast,↓JP,Nat.reduceAdd,Nat.reduceEqDiff,Nat.reduceLT,Nat.reduceMul,Nat.reduceLeDiff,reduceCtorEq,reduceIte,↓JK,h1,h2];rfl)):P:=h
theorem k118_ {P:Prop}(h:P:=by(simp only[push_cast,↓JP,Nat.reduceAdd,Nat.reduceEqDiff,Nat.reduceLT,Nat.reduceMul,Nat.reduceLeDiff,reduceCtorEq,reduceIte,↓JK,h1];rfl)):P:=h
theorem k119_ {P:Prop}(h:P:=by(simp only[push_cast,↓JP,Nat.reduceAdd,Nat.reduceEqDiff,Nat.reduceLT,Nat.reduceMul,Nat.reduceLeDiff,reduceCtorEq,reduceIte,↓JK,hjl,zp_,inR,inN];rfl)):P:=h
theorem k120_ {P:Prop}(h:P:=by(simp only[push_cast,↓JP,Nat.reduceAdd,Nat.reduceEqDiff,Nat.reduceLT,Nat.reduceMul,Nat.reduceLeDiff,reduceCtorEq,reduceIte,↓JK,hjl];rfl)):P:=h
theorem k121_ {P:Prop}(h:P:=by(first|exact True.intro |((try simp only[JS,implies_true,forall_const,yc_,z7_,x4_,inR,inN]);(first|first|omega|exact⟨hP,hn⟩ |(repeat' (first|assumption|exact True.intro|omega|apply And.intro)));done))):P:=h
theorem k122_ {P:Prop}(h:P:=by(simp only[push_cast,↓JP,Nat.reduceAdd,Nat.reduceEqDiff,Nat.reduceLT,Nat.reduceMul,Nat.reduceLeDiff,reduceCtorEq,reduceIte,↓JK,JM,cOp,sCheck,sVRight,sSRight,sCopied,JE,inR,inN,q1,q2,q3];rfl)):P:=h
theorem k123_ {P:Prop}(h:P:=by(repeat' (first|exact trivial|exact rfl|assumption|apply zc_.ite|apply And.intro|intro _ |(simp only[zc_,ze_,zp_,prS,yu_,zo_,sndS,stS,evS,macS,mB,cB,sB,eB,prO,HB.stable];done)))):P:=h
theorem k124_ {P:Prop}(h:P:=by(repeat' (first|exact trivial|exact rfl|assumption|apply zc_.ite|apply And.intro|intro _ |(simp only[zc_,ze_,zp_,prS,yu_,zo_,sndS,stS,evS,macS,mB,cB,sB,eS,prO,prR,HB.stable];done)))):P:=h
theorem k125_ {P:Prop}(h:P:=by(repeat' (first|exact trivial|exact rfl|assumption|apply zc_.ite|apply And.intro|intro _ |(simp only[zc_,ze_,zp_,prS,yu_,zo_,sndS,stS,evS,macS,mB,cB,sB,eB,prO,prR,HB.stable];done)))):P:=h
theorem k126_ {P:Prop}(h:P:=by(first|exact True.intro |((try simp only[JS,implies_true,forall_const,yc_,z7_,x4_,inR,inN]);(first|first|omega|exact⟨hP,hn2⟩ |(repeat' (first|assumption|exact True.intro|omega|apply And.intro)));done))):P:=h
theorem k127_ {P:Prop}(h:P:=by(simp only[push_cast,↓JP,Nat.reduceAdd,Nat.reduceEqDiff,Nat.reduceLT,Nat.reduceMul,Nat.reduceLeDiff,reduceCtorEq,reduceIte,↓JK,JM,JE,eS,cEn,eN,inR,inN];rfl)):P:=h
theorem k128_ {P:Prop}(h:P:=by(simp only[push_cast,↓JP,Nat.reduceAdd,Nat.reduceEqDiff,Nat.reduceLT,Nat.reduceMul,Nat.reduceLeDiff,reduceCtorEq,reduceIte,↓JK,inR,inN,h1,h2];rfl)):P:=h
theorem k129_ {P:Prop}(h:P:=by simp only[push_cast,↓JP,Nat.reduceAdd,Nat.reduceEqDiff,Nat.reduceLT,Nat.reduceMul,Nat.reduceLeDiff,reduceCtorEq,reduceIte,↓JK];rfl):P:=h
theorem k130_ {P:Prop}(h:P:=by(repeat' (first|exact trivial|exact .inl rfl|exact .inr (.same _)|exact .inr .loose|exact .inr (.arr (by assumption))|apply And.intro |(exact .inr (hl0 true))))):P:=h
theorem k131_ {P:Prop}(h:P:=by(repeat' (first|exact trivial|exact rfl|assumption|exact hst _ _|exact hst1 _ _|exact hst2 _ _|apply zc_.ite|apply And.intro|intro _ |(simp only[zc_,ze_,zp_,prS,yu_,zo_,sndS,stS,evS,macS,mB,cB,sB,eB,prO,prR,pbB,fbB,HB.stable];done)))):P:=h
theorem k132_ {P:Prop}(h:P:=by simp only[push_cast,↓JP,Nat.reduceAdd,Nat.reduceEqDiff,Nat.reduceLT,Nat.reduceMul,Nat.reduceLeDiff,reduceCtorEq,reduceIte,↓JK,noDefer,List.drop_zero,List.drop_succ_cons,cRun,JM,engP,prP,macP,z3_,memN,eB,prO,pbB,fbB,JE,eEnded,eAt,eStep,wb_,inR,inN,hst];rfl):P:=h
theorem xd_ {P:Prop}(h:P:=by(focus (first|exact True.intro |((try simp only[JS,implies_true,forall_const,yc_,z7_,x4_,inR,inN]);(repeat' (first|assumption|exact True.intro|omega|apply And.intro));done)))):P:=h
theorem k134_ {P:Prop}(h:P:=by first|rfl |(simp only[push_cast,↓JP,Nat.reduceAdd,Nat.reduceEqDiff,Nat.reduceLT,Nat.reduceMul,Nat.reduceLeDiff,reduceCtorEq,reduceIte,↓JK,noDefer,List.drop_zero,List.drop_succ_cons,cRun,JM,engP,prP,macP,z3_,memN,eB,prO,pbB,fbB,JE,eEnded,eAt,eStep,wb_,inR,inN,hst];done)):P:=h
theorem k135_ {P:Prop}(h:P:=by exact⟨⟨hkf,stepS_good hg hP,by simp[hl],by rw[←hr1,runA_go rfl (by omega) hst];rfl⟩,by show f.toNat - (k+1) < f.toNat - k;omega⟩):P:=h
theorem k136_ {P:Prop}(h:P:=by(repeat' (first|exact trivial|exact rfl|assumption|apply zc_.ite|apply And.intro|intro _ |(simp only[zc_,ze_,zp_,prS,yu_,zo_,sndS,stS,evS,macS,mB,cB,sB,eB,prO,prR,pbB,fbB,HB.stable];done)))):P:=h
theorem k137_ {P:Prop}(h:P:=by simp only[push_cast,↓JP,Nat.reduceAdd,Nat.reduceEqDiff,Nat.reduceLT,Nat.reduceMul,Nat.reduceLeDiff,reduceCtorEq,reduceIte,↓JK,noDefer,List.drop_zero,List.drop_succ_cons,cRun,JM,engP,prP,macP,z3_,memN,eB,prO,pbB,fbB,JE,eEnded,eAt,eStep,wb_,inR,inN];rfl):P:=h
theorem k138_ {P:Prop}(h:P:=by first|rfl |(simp only[push_cast,↓JP,Nat.reduceAdd,Nat.reduceEqDiff,Nat.reduceLT,Nat.reduceMul,Nat.reduceLeDiff,reduceCtorEq,reduceIte,↓JK,noDefer,List.drop_zero,List.drop_succ_cons,cRun,JM,engP,prP,macP,z3_,memN,eB,prO,pbB,fbB,JE,eEnded,eAt,eStep,wb_,inR,inN];done)):P:=h
theorem k139_ {P:Prop}(h:P:=by(first|exact True.intro |((try simp only[JS,implies_true,forall_const,yc_,z7_,x4_,inR,inN]);(first|first|omega|exact⟨hok,hn',hc⟩ |(repeat' (first|assumption|exact True.intro|omega|apply And.intro)));done))):P:=h
theorem k140_ {P:Prop}(h:P:=by(simp only[push_cast,↓JP,Nat.reduceAdd,Nat.reduceEqDiff,Nat.reduceLT,Nat.reduceMul,Nat.reduceLeDiff,reduceCtorEq,reduceIte,↓JK,cRun,sRoG,sSteps,JE,hs0,inR,inN,hE];rfl)):P:=h
theorem k141_ {P:Prop}(h:P:=by(simp only[push_cast,↓JP,Nat.reduceAdd,Nat.reduceEqDiff,Nat.reduceLT,Nat.reduceMul,Nat.reduceLeDiff,reduceCtorEq,reduceIte,↓JK,JM,engP,prP,macP,z3_,memN,eB,prO,pbB,fbB,JE,inR,inN];rfl)):P:=h
theorem k142_ {P:Prop}(h:P:=by(simp only[push_cast,↓JP,Nat.reduceAdd,Nat.reduceEqDiff,Nat.reduceLT,Nat.reduceMul,Nat.reduceLeDiff,reduceCtorEq,reduceIte,↓JK,cRun,JM,engP,prP,macP,z3_,memN,eB,prO,pbB,fbB,JE,eEnded,eAt,eStep,wb_,inR,inN,hst,hkf2];rfl)):P:=h
theorem k143_ {P:Prop}(h:P:=by(simp only[push_cast,↓JP,Nat.reduceAdd,Nat.reduceEqDiff,Nat.reduceLT,Nat.reduceMul,Nat.reduceLeDiff,reduceCtorEq,reduceIte,↓JK,cRun,JM,engP,prP,macP,z3_,memN,eB,prO,pbB,fbB,JE,eEnded,eAt,eStep,wb_,inR,inN,hst];rfl)):P:=h
theorem k144_ {P:Prop}(h:P:=by(simp only[push_cast,↓JP,Nat.reduceAdd,Nat.reduceEqDiff,Nat.reduceLT,Nat.reduceMul,Nat.reduceLeDiff,reduceCtorEq,reduceIte,↓JK,cRun,JM,engP,prP,macP,z3_,memN,eB,prO,pbB,fbB,JE,eEnded,eAt,eStep,wb_,inR,inN,hl];rfl)):P:=h
theorem k145_ {P:Prop}(h:P:=by(simp only[push_cast,↓JP,Nat.reduceAdd,Nat.reduceEqDiff,Nat.reduceLT,Nat.reduceMul,Nat.reduceLeDiff,reduceCtorEq,reduceIte,↓JK,cRun,JM,engP,prP,macP,z3_,memN,eB,prO,pbB,fbB,JE,eEnded,eAt,eStep,wb_,inR,inN];rfl)):P:=h
theorem k146_ {P:Prop}(h:P:=by(first|exact True.intro |((try simp only[JS,implies_true,forall_const,yc_,z7_,x4_,inR,inN]);(first|first|omega|exact⟨hok,hn,hc⟩ |(repeat' (first|assumption|exact True.intro|omega|apply And.intro)));done))):P:=h
theorem k147_ {P:Prop}(h:P:=by(simp only[push_cast,↓JP,Nat.reduceAdd,Nat.reduceEqDiff,Nat.reduceLT,Nat.reduceMul,Nat.reduceLeDiff,reduceCtorEq,reduceIte,↓JK,cRej,sRoB,JE,hs0,inR,inN,hE];rfl)):P:=h
theorem k148_ {P:Prop}(h:P:=by(repeat' (first|exact trivial|exact rfl|assumption|apply zc_.ite|exact nilOr_st rfl rfl|apply And.intro|intro _ |(simp only[zc_,ze_,zp_,prS,yu_,zo_,sndS,stS,evS,macS,mB,cB,sB,eB,prO,prR,pbB,fbB,HB.stable];done)))):P:=h
theorem k149_ {P:Prop}(h:P:=by exact⟨⟨hkf,stepS_good hg hP,hl2,by rw[←hr1,runA_go rfl (by omega) hst];rfl⟩,by show f.toNat - (k+1) < f.toNat - k;omega⟩):P:=h
theorem k150_ {P:Prop}(h:P:=by(repeat' (first|exact trivial|exact .inl rfl|exact .inr (.same _)|exact .inr .loose|exact .inr (.arr (by assumption))|apply And.intro |(exact .inr (hA1 _ (fun q _=>rfl) _)) |(exact .inr (hA0 _ (fun q _=>rfl) _)) |(refine .inr (less_nil ?_ ?_ ?_)<;>first|rfl|simp)))):P:=h
theorem k151_ {P:Prop}(h:P:=by(repeat' (first|exact trivial|exact rfl|assumption|apply zc_.ite|apply And.intro|intro _ |(simp only[zc_,ze_,zp_,prS,yu_,zo_,sndS,stS,evS,macS,mB,cB,sB,eB,prO,prR,pbB,fbB,rB,rvS,HB.stable];done)))):P:=h
theorem k152_ {P:Prop}(h:P:=by(simp only[push_cast,↓JP,Nat.reduceAdd,Nat.reduceEqDiff,Nat.reduceLT,Nat.reduceMul,Nat.reduceLeDiff,reduceCtorEq,reduceIte,↓JK,cRun,JM,engP,prP,macP,z3_,memN,eB,prO,pbB,fbB,eEnded,eAt,eStep,wb_,hst,hkf2];rfl)):P:=h
theorem k153_ {P:Prop}(h:P:=by(simp only[push_cast,↓JP,Nat.reduceAdd,Nat.reduceEqDiff,Nat.reduceLT,Nat.reduceMul,Nat.reduceLeDiff,reduceCtorEq,reduceIte,↓JK,cRun,JM,engP,prP,macP,z3_,memN,eB,prO,pbB,fbB,eEnded,eAt,eStep,wb_,hst];rfl)):P:=h
theorem k154_ {P:Prop}(h:P:=by(simp only[push_cast,↓JP,Nat.reduceAdd,Nat.reduceEqDiff,Nat.reduceLT,Nat.reduceMul,Nat.reduceLeDiff,reduceCtorEq,reduceIte,↓JK,cRun,JM,engP,prP,macP,z3_,memN,eB,prO,pbB,fbB,eEnded,eAt,eStep,wb_,hst,hn190,Nat.sub_zero];rfl)):P:=h
theorem k155_ {P:Prop}(h:P:=by(simp only[push_cast,↓JP,Nat.reduceAdd,Nat.reduceEqDiff,Nat.reduceLT,Nat.reduceMul,Nat.reduceLeDiff,reduceCtorEq,reduceIte,↓JK,cRun,JM,engP,prP,macP,z3_,memN,eB,prO,pbB,fbB,eEnded,eAt,eStep,wb_,hkf2];rfl)):P:=h
theorem k156_ {P:Prop}(h:P:=by(simp only[push_cast,↓JP,Nat.reduceAdd,Nat.reduceEqDiff,Nat.reduceLT,Nat.reduceMul,Nat.reduceLeDiff,reduceCtorEq,reduceIte,↓JK,cRun,JM,engP,prP,macP,z3_,memN,eB,prO,pbB,fbB,eEnded,eAt,eStep,wb_];rfl)):P:=h
theorem k157_ {P:Prop}(h:P:=by simp only[push_cast,↓JP,Nat.reduceAdd,Nat.reduceEqDiff,Nat.reduceLT,Nat.reduceMul,Nat.reduceLeDiff,reduceCtorEq,reduceIte,↓JK,noDefer,List.drop_zero,List.drop_succ_cons,cGo,JM,engP,prP,macP,z3_,memN,eB,prO,pbB,fbB,rB,rvS,JE,eEnded,eAt,eStep,wb_,inR,inN,hst];rfl):P:=h
theorem k158_ {P:Prop}(h:P:=by first|rfl |(simp only[push_cast,↓JP,Nat.reduceAdd,Nat.reduceEqDiff,Nat.reduceLT,Nat.reduceMul,Nat.reduceLeDiff,reduceCtorEq,reduceIte,↓JK,noDefer,List.drop_zero,List.drop_succ_cons,cGo,JM,engP,prP,macP,z3_,memN,eB,prO,pbB,fbB,rB,rvS,JE,eEnded,eAt,eStep,wb_,inR,inN,hst];done)):P:=h
theorem k159_ {P:Prop}(h:P:=by simp only[push_cast,↓JP,Nat.reduceAdd,Nat.reduceEqDiff,Nat.reduceLT,Nat.reduceMul,Nat.reduceLeDiff,reduceCtorEq,reduceIte,↓JK,noDefer,List.drop_zero,List.drop_succ_cons,cGo,JM,engP,prP,macP,z3_,memN,eB,prO,pbB,fbB,rB,rvS,JE,eEnded,eAt,eStep,wb_,inR,inN];rfl):P:=h
theorem k160_ {P:Prop}(h:P:=by first|rfl |(simp only[push_cast,↓JP,Nat.reduceAdd,Nat.reduceEqDiff,Nat.reduceLT,Nat.reduceMul,Nat.reduceLeDiff,reduceCtorEq,reduceIte,↓JK,noDefer,List.drop_zero,List.drop_succ_cons,cGo,JM,engP,prP,macP,z3_,memN,eB,prO,pbB,fbB,rB,rvS,JE,eEnded,eAt,eStep,wb_,inR,inN];done)):P:=h
theorem k161_ {P:Prop}(h:P:=by(repeat' (first|exact trivial|exact rfl|assumption|apply zc_.ite|apply And.intro|intro _ |(simp only[zc_,ze_,zp_,prS,yu_,zo_,sndS,stS,evS,macS,mB,cB,sB,eB,prO,prR,pbB,fbB,rB,rvS,clA,clB,clC,fsS,HB.stable];done)))):P:=h
theorem k162_ {P:Prop}(h:P:=by(simp only[push_cast,↓JP,Nat.reduceAdd,Nat.reduceEqDiff,Nat.reduceLT,Nat.reduceMul,Nat.reduceLeDiff,reduceCtorEq,reduceIte,↓JK,cGo,rB,rvS,rN,sRRight,sSteps,hrr];rfl)):P:=h
theorem k163_ {P:Prop}(h:P:=by(simp only[push_cast,↓JP,Nat.reduceAdd,Nat.reduceEqDiff,Nat.reduceLT,Nat.reduceMul,Nat.reduceLeDiff,reduceCtorEq,reduceIte,↓JK,engP,prP,macP,pbB,fbB];rfl)):P:=h
theorem k164_ {P:Prop}(h:P:=by(simp only[push_cast,↓JP,Nat.reduceAdd,Nat.reduceEqDiff,Nat.reduceLT,Nat.reduceMul,Nat.reduceLeDiff,reduceCtorEq,reduceIte,↓JK,cGo,engP,prP,macP,pbB,fbB,rB,rvS,eEnded,eAt,eStep,wb_,hst,hkf2];rfl)):P:=h
theorem k165_ {P:Prop}(h:P:=by(simp only[push_cast,↓JP,Nat.reduceAdd,Nat.reduceEqDiff,Nat.reduceLT,Nat.reduceMul,Nat.reduceLeDiff,reduceCtorEq,reduceIte,↓JK,cGo,engP,prP,macP,pbB,fbB,rB,rvS,eEnded,eAt,eStep,wb_,hst];rfl)):P:=h
theorem k166_ {P:Prop}(h:P:=by(simp only[push_cast,↓JP,Nat.reduceAdd,Nat.reduceEqDiff,Nat.reduceLT,Nat.reduceMul,Nat.reduceLeDiff,reduceCtorEq,reduceIte,↓JK,cGo,engP,prP,macP,pbB,fbB,rB,rvS,eEnded,eAt,eStep,wb_,hst,hn190];rfl)):P:=h
theorem k167_ {P:Prop}(h:P:=by(simp only[push_cast,↓JP,Nat.reduceAdd,Nat.reduceEqDiff,Nat.reduceLT,Nat.reduceMul,Nat.reduceLeDiff,reduceCtorEq,reduceIte,↓JK,cGo,engP,prP,macP,pbB,fbB,rB,rvS,eEnded,eAt,eStep,wb_,hkf2];rfl)):P:=h
theorem k168_ {P:Prop}(h:P:=by(simp only[push_cast,↓JP,Nat.reduceAdd,Nat.reduceEqDiff,Nat.reduceLT,Nat.reduceMul,Nat.reduceLeDiff,reduceCtorEq,reduceIte,↓JK,cGo,engP,prP,macP,pbB,fbB,rB,rvS,eEnded,eAt,eStep,wb_];rfl)):P:=h
theorem k169_ {P:Prop}(h:P:=by(first|exact True.intro |((try simp only[JS,implies_true,forall_const,yc_,z7_,x4_,inR,inN]);(first|first|omega|exact⟨hP,hn,hc⟩ |(repeat' (first|assumption|exact True.intro|omega|apply And.intro)));done))):P:=h
theorem k170_ {P:Prop}(h:P:=by(first|exact True.intro |((try simp only[JS,implies_true,forall_const,yc_,z7_,x4_,inR,inN]);(first|first|omega|exact⟨fun q _=>rfl,hn⟩|exact⟨hP,hn,hc⟩|exact⟨hP,hn,hc,hE⟩ |(repeat' (first|assumption|exact True.intro|omega|apply And.intro)));done))):P:=h
theorem k171_ {P:Prop}(h:P:=by(repeat' (first|exact trivial|exact rfl|assumption|apply zc_.ite|apply And.intro|intro _ |(simp only[zc_,ze_,zp_,prS,yu_,zo_,sndS,stS,evS,macS,cB,sB,HB.stable];done)))):P:=h
theorem k172_ {P:Prop}(h:P:=by(repeat' (first|exact trivial|exact rfl|assumption|apply zc_.ite|apply And.intro|intro _ |(simp only[zc_,ze_,zp_,prS,yu_,zo_,sndS,evS,sr,ys_,nilS,cRf,sRf,trO,prT,cB,sB,prO,HB.stable];done)))):P:=h
theorem k173_ {P:Prop}(h:P:=by(first|exact True.intro |((try simp only[JE,JB,iOf,zb_,xw_,z0_,hR]);(repeat' (first|exact True.intro|exact hok|exact hw|assumption|apply And.intro|rfl|omega|decide|intro _));done) |((try simp only[JS,implies_true,forall_const,yc_,z7_,x4_,inR,inN]);(repeat' (first|assumption|exact True.intro|omega|apply And.intro));done))):P:=h
theorem yw_ {P:Prop}(h:P:=by(repeat' (first|exact trivial|exact rfl|assumption|apply zc_.ite|apply And.intro|intro _ |(simp only[zc_,ze_,zp_,prS,yu_,zo_,sndS,evS,sr,csl,ssl,stS,macS,mB,eB,rB,clA,clB,clC,ys_,nilS,cRf,sRf,trO,prT,cB,sB,prO,HB.stable];done)))):P:=h
theorem k175_ {P:Prop}(h:P:=by(repeat' (first|exact trivial|exact .inl rfl|exact .inr (.same _)|exact .inr .loose|exact .inr (.arr (by assumption))|apply And.intro |(exact .inr (by cases fc<;>exact .same _))))):P:=h
theorem k176_ {P:Prop}(h:P:=by exact⟨⟨hjk,hg2,by show u+tr.length≤600*(j+1);omega,fun _=>rfl,hl3⟩,by show K - (j+1) < K - j;omega⟩):P:=h
theorem k177_ {P:Prop}(h:P:=by exact⟨⟨hjk,hg2,by show u+tr.length≤600*(j+1);omega,(fun h=>by cases h),hl3⟩,by show K - (j+1) < K - j;omega⟩):P:=h
theorem k178_ {P:Prop}(h:P:=by exact⟨⟨hjk,hg2,by show u≤600*(j+1);omega,fun _=>rfl,hl3⟩,by show K - (j+1) < K - j;omega⟩):P:=h
theorem k179_ {P:Prop}(h:P:=by exact⟨⟨hjk,hg2,by show u≤600*(j+1);omega,(fun h=>by cases h),hl3⟩,by show K - (j+1) < K - j;omega⟩):P:=h
theorem k180_ {P:Prop}(h:P:=by(first|exact True.intro |((try simp only[JE,JB,iOf,zb_,xw_,z0_,xl_,yz_]);(repeat' (first|exact True.intro|exact hok|assumption|apply And.intro|rfl|omega|decide|intro _));done) |((try simp only[JS,implies_true,forall_const,yc_,z7_,x4_,inR,inN]);(repeat' (first|assumption|exact True.intro|omega|apply And.intro));done))):P:=h
theorem k181_ {P:Prop}(h:P:=by(first|exact True.intro |((try simp only[JE,JB,iOf,zb_,xw_,z0_,xl_,yz_,hs0,hs0']);(repeat' (first|exact True.intro|exact hok|assumption|apply And.intro|rfl|omega|decide|intro _));done) |((try simp only[JS,implies_true,forall_const,yc_,z7_,x4_,inR,inN]);(repeat' (first|assumption|exact True.intro|omega|apply And.intro));done))):P:=h
theorem k182_ {P:Prop}(h:P:=by(simp only[push_cast,↓JP,Nat.reduceAdd,Nat.reduceEqDiff,Nat.reduceLT,Nat.reduceMul,Nat.reduceLeDiff,reduceCtorEq,reduceIte,↓JK,cGG,JM,JE,JB,wc_,xv_,rvS,fsS,clP,y0_,sClI,sCl64,sTh14,xc_,sRt18,sSpo,x6_,rBack,rState,rUsed,rGo,rGoQ,rGoR,rGoRQ,x8_,rUsedQ,runP,clP,sFrom,sTh18,wg_,sNewB,sNewG,engP,prP,macP,eB,rB,clA,clB,clC,prO,sr,evS,stS,cRf,sRf,trO,cB,sB,prT,ys_,nilS,z3_,memN,zu_,zt_,zn_,iOf,zb_,xw_,z0_,xl_,yz_,inR,inN,Int.cast_ofNat_Int,hsm2,hb0];rfl)):P:=h
theorem k183_ {P:Prop}(h:P:=by(simp only[push_cast,↓JP,Nat.reduceAdd,Nat.reduceEqDiff,Nat.reduceLT,Nat.reduceMul,Nat.reduceLeDiff,reduceCtorEq,reduceIte,↓JK,cGG,JM,JE,JB,wc_,xv_,rvS,fsS,clP,y0_,sClI,sCl64,sTh14,xc_,sRt18,sSpo,x6_,rBack,rState,rUsed,rGo,rGoQ,rGoR,rGoRQ,x8_,rUsedQ,runP,clP,sFrom,sTh18,wg_,sNewB,sNewG,engP,prP,macP,eB,rB,clA,clB,clC,prO,sr,evS,stS,cRf,sRf,trO,cB,sB,prT,ys_,nilS,z3_,memN,zu_,zt_,zn_,iOf,zb_,xw_,z0_,xl_,yz_,inR,inN,Int.cast_ofNat_Int,hsm2,hb];rfl)):P:=h
theorem k184_ {P:Prop}(h:P:=by(simp only[push_cast,↓JP,Nat.reduceAdd,Nat.reduceEqDiff,Nat.reduceLT,Nat.reduceMul,Nat.reduceLeDiff,reduceCtorEq,reduceIte,↓JK,cGG,JM,JE,JB,wc_,xv_,rvS,fsS,clP,y0_,sClI,sCl64,sTh14,xc_,sRt18,sSpo,x6_,rBack,rState,rUsed,rGo,rGoQ,rGoR,rGoRQ,x8_,rUsedQ,runP,clP,sFrom,sTh18,wg_,sNewB,sNewG,engP,prP,macP,eB,rB,clA,clB,clC,prO,sr,evS,stS,cRf,sRf,trO,cB,sB,prT,ys_,nilS,z3_,memN,zu_,zt_,zn_,iOf,zb_,xw_,z0_,xl_,yz_,inR,inN,Int.cast_ofNat_Int,hsm2,hb,hb0];rfl)):P:=h
theorem k185_ {P:Prop}(h:P:=by(repeat' (first|exact trivial|exact rfl|assumption|apply zc_.ite|apply And.intro|intro _ |(simp only[zc_,ze_,zp_,prS,yu_,zo_,sndS,stS,evS,macS,zE,zEB,HB.stable];done)))):P:=h
theorem k186_ {P:Prop}(h:P:=by simp only[push_cast,↓JP,Nat.reduceAdd,Nat.reduceEqDiff,Nat.reduceLT,Nat.reduceMul,Nat.reduceLeDiff,reduceCtorEq,reduceIte,↓JK,resV,resV1,zSt];rfl):P:=h
theorem k187_ {P:Prop}(h:P:=by(repeat' (first|exact trivial|exact rfl|assumption|apply zc_.ite|apply And.intro|intro _ |(simp only[zc_,ze_,zp_,prS,yu_,zo_,sndS,stS,evS,cB,sB,HB.stable];done)))):P:=h
theorem k188_ {P:Prop}(h:P:=by(simp only[push_cast,↓JP,Nat.reduceAdd,Nat.reduceEqDiff,Nat.reduceLT,Nat.reduceMul,Nat.reduceLeDiff,reduceCtorEq,reduceIte,↓JK,cNl,sRNone,sNil,z3_,memN,zEB,zE,zSt,inR,inN];rfl)):P:=h
theorem xa_ {P:Prop}(h:P:=by(repeat' (first|exact trivial|exact rfl|assumption|apply zc_.ite|apply And.intro|intro _ |(simp only[zc_,ze_,progF,runF,zp_,prS,yu_,zo_,sndS,stS,evS,cB,sB,zE,zEB,HB.stable];done)))):P:=h
theorem k190_ {P:Prop}(h:P:=by(simp only[push_cast,↓JP,Nat.reduceAdd,Nat.reduceEqDiff,Nat.reduceLT,Nat.reduceMul,Nat.reduceLeDiff,reduceCtorEq,reduceIte,↓JK,cRS,List.all_cons,List.all_nil];rfl)):P:=h
theorem k191_ {P:Prop}(h:P:=by(first|exact True.intro |((repeat' (first|exact True.intro|assumption|exact pgm0_ok|exact pgm1_ok|exact pgm2_ok|exact pgm3_ok|exact pgm4_ok|exact c8R|exact l1R (natR (by decide))|exact l3R (natR (by decide)) hnR (natR (by decide))|exact l6R (natR (by omega)) (natR (by omega)) m1R (natR (by omega)) (natR (by omega)) (natR (by omega))|exact lzR|exact i1 rfl|exact i3 rfl rfl rfl|exact i6 rfl rfl rfl rfl rfl rfl|exact natR (by decide)|exact natR (by omega)|exact zero_R|exact fun q _=>rfl|apply And.intro|rfl|contradiction|omega|decide|intro _));done) |((try simp only[JS,implies_true,forall_const,yc_,z7_,x4_]);(repeat' (first|assumption|exact True.intro|omega|apply And.intro));done))):P:=h
theorem k192_ {P:Prop}(h:P:=by(simp only[push_cast,↓JP,Nat.reduceAdd,Nat.reduceEqDiff,Nat.reduceLT,Nat.reduceMul,Nat.reduceLeDiff,reduceCtorEq,reduceIte,↓JK,cRS,List.all_cons,List.all_nil,progF];rfl)):P:=h
theorem k193_ {P:Prop}(h:P:=by(simp only[push_cast,↓JP,Nat.reduceAdd,Nat.reduceEqDiff,Nat.reduceLT,Nat.reduceMul,Nat.reduceLeDiff,reduceCtorEq,reduceIte,↓JK,cRS,List.all_cons,List.all_nil,hf2];rfl)):P:=h
theorem k194_ {P:Prop}(h:P:=by(simp only[push_cast,↓JP,Nat.reduceAdd,Nat.reduceEqDiff,Nat.reduceLT,Nat.reduceMul,Nat.reduceLeDiff,reduceCtorEq,reduceIte,↓JK,cRS,List.all_cons,List.all_nil,hz2];rfl)):P:=h
theorem k195_ {P:Prop}(h:P:=by(simp only[push_cast,↓JP,Nat.reduceAdd,Nat.reduceEqDiff,Nat.reduceLT,Nat.reduceMul,Nat.reduceLeDiff,reduceCtorEq,reduceIte,↓JK,cRS,List.all_cons,List.all_nil,progF,hi2,hn,h0,h1];rfl)):P:=h
theorem k196_ {P:Prop}(h:P:=by(simp only[push_cast,↓JP,Nat.reduceAdd,Nat.reduceEqDiff,Nat.reduceLT,Nat.reduceMul,Nat.reduceLeDiff,reduceCtorEq,reduceIte,↓JK,cRS,List.all_cons,List.all_nil,runF,zE,zSt];rfl)):P:=h
end Go.Proofs.YtjliakjbdcplcaaGreat.Vm
end
section
namespace Go.Proofs.YtjliakjbdcplcaaGreat
open Go.RowKit
structure Ins where
 op:Int
 a:Int
 b:Int
 c:Int
 n:Int
deriving DecidableEq
def Ins.cells (i:Ins):List Value:=[.int .u8 i.op,.int .u8 i.a,.int .u8 i.b,.int .u8 i.c,.int .i64 i.n]
def Ins.v (i:Ins):Value:=.agg #[.int .u8 i.op,.int .u8 i.a,.int .u8 i.b,.int .u8 i.c,.int .i64 i.n]
structure Ins.ok (i:Ins):Prop where
 op0:0≤i.op
 op1:i.op≤255
 a0:0≤i.a
 a1:i.a≤255
 b0:0≤i.b
 b1:i.b≤255
 c0:0≤i.c
 c1:i.c≤255
 n0:-9223372036854775808≤i.n
 n1:i.n≤9223372036854775807
def x1_ (op:Int):Nat:=
 if 32 < op∧op≤49 then 1
 else if op=1∨op=2 then 2
 else if op=3 then 3
 else if 4≤op∧op≤7 then 4
 else if op=8 then 5
 else if op=9 then 6
 else if op=10∨op=11 then 7
 else 0
def xh_:Nat→ByteArray
 | 1=>⟨#[114,114,114]⟩
 | 3=>⟨#[114,110]⟩
 | 4=>⟨#[114,114]⟩
 | 5=>⟨#[114,114,112]⟩
 | 6=>⟨#[116]⟩
 | 7=>⟨#[114,116]⟩
 | _=>⟨#[]⟩
def wa_ (k:Nat)(a b c n:Int):Prop:=
 match k with
 | 1=>a < 8∧b < 8∧c < 8∧n=0
 | 2=>a=0∧b=0∧c=0∧n=0
 | 3=>a < 8∧b=0∧c=0
 | 4=>a < 8∧b < 8∧c=0∧n=0
 | 5=>a < 8∧b < 8∧c=0∧0≤n∧n < 16
 | 6=>a=0∧b=0∧c=0∧0≤n∧n < 256
 | 7=>a < 8∧b=0∧c=0∧0≤n∧n < 256
 | _=>False
instance (k:Nat)(a b c n:Int):Decidable (wa_ k a b c n):=by
 unfold wa_;split<;>infer_instance
def oneK (k:Nat)(a b c n:Int):Int:=if wa_ k a b c n then 0 else 141
theorem oneK_pos {k:Nat}{a b c n:Int}(h:wa_ k a b c n):oneK k a b c n=0:=if_pos h
theorem xf_ {k:Nat}{a b c n:Int}(h:¬wa_ k a b c n):oneK k a b c n=141:=if_neg h
theorem ret_i64 {a b:Int}(h:a=b):Ending.returned (.int .i64 a)=.returned (.int .i64 b):=by rw[h]
def oneE (i:Ins):Int:=if x1_ i.op=0 then 140 else oneK (x1_ i.op) i.a i.b i.c i.n
section
variable {w1 W W':World}
theorem preD:Below w1.heap.size w1 w1.drew∧∀b o,b < w1.heap.size→w1.drew.cell? ⟨b,o,none⟩=w1.cell? ⟨b,o,none⟩:=⟨(Below.refl _ _).drew,fun _ _ _=>rfl⟩
theorem preR:Below w1.heap.size w1 w1∧∀b o,b < w1.heap.size→w1.cell? ⟨b,o,none⟩=w1.cell? ⟨b,o,none⟩:=⟨Below.refl _ _,fun _ _ _=>rfl⟩
theorem preE (h:Below w1.heap.size w1 W∧∀b o,b < w1.heap.size→W.cell? ⟨b,o,none⟩=w1.cell? ⟨b,o,none⟩):Below w1.heap.size w1 W.drew∧∀b o,b < w1.heap.size→W.drew.cell? ⟨b,o,none⟩=w1.cell? ⟨b,o,none⟩:=⟨h.1.drew,h.2⟩
theorem preOf (h:Below w1.heap.size w1 W):Below w1.heap.size w1 W∧∀b o,b < w1.heap.size→W.cell? ⟨b,o,none⟩=w1.cell? ⟨b,o,none⟩:=⟨h,fun b o hb=>h.cell (p:=⟨b,o,none⟩) hb⟩
theorem preA (h:Below w1.heap.size w1 W∧∀b o,b < w1.heap.size→W.cell? ⟨b,o,none⟩=w1.cell? ⟨b,o,none⟩)(x:Obj):Below w1.heap.size w1 (W.alloc x)∧∀b o,b < w1.heap.size→(W.alloc x).cell? ⟨b,o,none⟩=w1.cell? ⟨b,o,none⟩:=preOf (h.1.alloc h.1.size x)
theorem preS (h:Below w1.heap.size w1 W∧∀b o,b < w1.heap.size→W.cell? ⟨b,o,none⟩=w1.cell? ⟨b,o,none⟩){q:Addr}(hq:w1.heap.size≤q.block)(v:Value):Below w1.heap.size w1 (W.setCell q v)∧∀b o,b < w1.heap.size→(W.setCell q v).cell? ⟨b,o,none⟩=w1.cell? ⟨b,o,none⟩:=preOf (h.1.setCell hq v)
theorem preB (h:Below w1.heap.size w1 W∧∀b o,b < w1.heap.size→W.cell? ⟨b,o,none⟩=w1.cell? ⟨b,o,none⟩)(hb:Below W.heap.size W W'):Below w1.heap.size w1 W'∧∀b o,b < w1.heap.size→W'.cell? ⟨b,o,none⟩=w1.cell? ⟨b,o,none⟩:=preOf (h.1.trans (hb.mono h.1.size))
end
theorem bcell {W w1:World}(hb:Below W.heap.size W w1):(∀b o,b < W.heap.size→w1.cell? ⟨b,o,none⟩=W.cell? ⟨b,o,none⟩)∧(∀b o,b < W.heap.size→w1.frozen? ⟨b,o,none⟩=W.frozen? ⟨b,o,none⟩):=
 ⟨fun b o h=>hb.cell (p:=⟨b,o,none⟩) h,fun b o h=>hb.frozen (p:=⟨b,o,none⟩) h⟩
section
variable {P:Program}
theorem iter_setCell (W:World)(s:ByteArray)(p g i:Nat)(v:Value)(h:g < W.heap.size):(W.iter s p).setCell ⟨g,i,none⟩ v=(W.setCell ⟨g,i,none⟩ v).iter s p:=World.setCell_alloc_past _ _ _ _ h
theorem iter_cell (W:World)(s:ByteArray)(p g i:Nat)(h:g < W.heap.size):(W.iter s p).cell? ⟨g,i,none⟩=W.cell? ⟨g,i,none⟩:=World.cell?_alloc_past _ _ _ h
theorem iter_frozen (W:World)(s:ByteArray)(p g i:Nat)(h:g < W.heap.size):(W.iter s p).frozen? ⟨g,i,none⟩=W.frozen? ⟨g,i,none⟩:=World.frozen?_alloc_past _ _ _ h
theorem next_at (W:World)(s:ByteArray)(p q n:Nat)(z:Int)(ty:TypeId)(hn:n=W.heap.size)(h:p < s.size)(ha:(s[p]'h).toNat < 128)(hz:((s[p]'h).toNat:Int)=z)(hq:q=p+1) :
  (Instr.next (.pointer (some ⟨n,0,none⟩)) true ty).run P (W.iter s p)=.ok (.tuple #[.bool true,.int .i64 p,.int .i32 z]) (W.iter s q):=by
 subst hn;subst hz;subst hq;exact run_next_ascii W s p ty h ha
theorem next_end (W:World)(s:ByteArray)(p n:Nat)(ty:TypeId)(hn:n=W.heap.size)(h:¬p < s.size) :
  (Instr.next (.pointer (some ⟨n,0,none⟩)) true ty).run P (W.iter s p)=.ok (.tuple #[.bool false]) (W.iter s p):=by
 subst hn;exact run_next_end W s p ty h
end
theorem ite_okB (x a:Int)(r:Bool)(w:World):(if x=a then Result.ok r w else Result.ok false w)=Result.ok (x == a && r) w:=by
 by_cases h:x=a<;>simp[h]
theorem below_setRow {B:Nat}{a w:World}(h:Below B a w){g:Nat}(hg:B≤g)(cs:Array Value):Below B a (w.setRow g cs):=
 h.trans ⟨rfl,rfl,rfl,by simp,fun k hk=>by
  simp only[World.setRow,Array.getElem?_modify]
  rw[if_neg (by omega)]⟩
end Go.Proofs.YtjliakjbdcplcaaGreat
end
section
namespace Go.Proofs.YtjliakjbdcplcaaGreat
open Go.ChangeShapes Go.WideShapes Go.ChangeAt Go.RowKit
theorem ownKnob_:ownKnob Tryz.prog.godebug=none:=by kernel_rfl
theorem laid_:laidOutB Tryz.prog=true:=by kernel_rfl
theorem again_all {H:Type}{enc:TypeId×Value→H}{W W':World}{sp:Nat→Bool}:∀{ts:List TypeId} {vs:List Value} {ds:List (DataW H)} {ps:List MemPlace},(∀t∈ts,Tryz.prog.readableRec t=true∧t < Tryz.prog.types.size) →
  DataW.TrodAll enc Tryz.prog W 0 (fun _=>true) true ts vs ds ps→(∀p∈ps,W.sameAt W' p)→(∀p∈ps,sp p.block=true)→DataW.TrodAll enc Tryz.prog W' 0 sp true ts vs ds ps
 | [],vs,ds,ps,_,h,_,_=>by
  obtain⟨rfl,rfl,rfl⟩:=trodAll_nil h
  exact trodAll_mk0
 | t::ts,vs,ds,ps,ht,h,hsame,hs=>by
  obtain⟨v,vs',d,ds',p,p',rfl,rfl,rfl,h1,h2⟩:=trodAll_cons h
  have htt:=ht t (.head _)
  exact trodAll_cons_mk (WideElems.Trod_stays laid_ htt.1 htt.2 h1 (fun q hq=>hsame q (List.mem_append_left _ hq)) (fun q hq=>hs q (List.mem_append_left _ hq)))
   (again_all (fun u hu=>ht u (.tail _ hu)) h2 (fun q hq=>hsame q (List.mem_append_right _ hq)) (fun q hq=>hs q (List.mem_append_right _ hq)))
theorem law_post {H:Type}{enc:TypeId×Value→H}{f:Func}{s:ChangeSpec}{W W':World}{args:Array Value}{ds gs:List (DataW H)}{before:List MemPlace}
  (hW:DataW.Whole enc Tryz.prog f.params.toList s.vars false W args.toList ds gs before) (hv:s.vars=[]) (hr:f.resultTypes = #[4])
  (hts:∀t∈f.params.toList,Tryz.prog.readableRec t=true∧t < Tryz.prog.types.size)
  (hfn:(s.fn H (ds++gs)).results=[.lit (.bool true)]∧(s.fn H (ds++gs)).args=ds∧(s.fn H (ds++gs)).vars=[]) (hb:Below W.heap.size W W') :
  s.post enc Tryz.prog f false true false false W args (.bool true) W':=by
 have hlt:∀x∈before,x.block < W.heap.size:=fun x hx=>hW.lt x hx
 have hW':=hW
 obtain⟨p,q,hA,hV,rfl,hfz,hnd⟩:=hW
 rw[hv]at hV
 obtain⟨rfl,rfl⟩:=trodVars_none hV
 have hsame:∀x∈p,W.sameAt W' x:=fun x hx=>by
  have hl:=hlt x (List.mem_append_left _ hx)
  cases x with
  | cell b off=>exact hb.cell (p:=⟨b,off,none⟩) hl
  | map b=>exact hb.block b hl
 refine⟨ds,[],p++[],[],p,[],hW',?_,?_,?_,hb.frame _,fun h=>by cases h⟩
 ·rw[hr,hfn.1]
  exact trodAll_mk1 (shut_bool Tryz.underlying4 _)
 ·rw[hfn.2.1]
  exact again_all hts hA hsame (fun x hx=>by simpa using hlt x (List.mem_append_left _ hx))
 ·rw[hv,hfn.2.2]
  rfl
end Go.Proofs.YtjliakjbdcplcaaGreat
end
section
namespace Go.Proofs.YtjliakjbdcplcaaGreat.Vm
inductive Stp where
 | f (j o:Nat)
 | i (m k:Nat)
def Stp.off:Stp→Nat
 | .f _ o=>o
 | .i m k=>m*k
def offp:List Stp→Nat
 | []=>0
 | s::l=>s.off+offp l
inductive SV where
 | int (k:IntKind) (n:Int)
 | nat (k:IntKind) (n:Nat)
 | bool (b:Bool)
 | str (s:ByteArray)
 | nilp
 | ptr (id:Nat) (pa:List Stp)
 /-- n elements of k cells each, from element s on, of what stands at pa in block id; z: where it begins if it is empty, and its capacity -/
 | sl (z id:Nat) (pa:List Stp) (k s n:Nat) (c:Option Nat)
 | agg (l:List SV)
 | arr (n k:Nat) (f:Nat→SV)
 | tup (l:List SV)
 | fn (f:FuncId) (caps:List SV)
 | yl (id:Nat)
 | nilf
 /-- known if b is true -/
 | gd (b:Bool) (v:SV)
abbrev Env:=Nat→Option Addr×Nat
def sane:Value→Value
 | .agg _=>.bool false
 | .tuple _=>.bool false
 | v=>v
theorem sane_sane (v:Value):sane (sane v)=sane v:=by cases v<;>rfl
def fit (k:Nat)(l:List Value):List Value:=l.take k++List.replicate (k - l.length) (.bool false)
theorem fit_length (k:Nat)(l:List Value):(fit k l).length=k:=by
 unfold fit;simp;omega
theorem fit_eq {k:Nat}{l:List Value}(h:l.length=k):fit k l=l:=by
 unfold fit;subst h;simp
mutual
def SV.den (β : Env):SV→Value
 | .int k n=>.int k n
 | .nat k n=>.int k (n:Int)
 | .bool b=>.bool b
 | .str s=>.string s
 | .nilp=>.pointer none
 | .ptr id pa=>.pointer (some (((β id).1.getD ⟨0,0,none⟩).add (offp pa)))
 | .sl z id pa k s n c=>.slice (if n=0 then(β z).1 else some (((β id).1.getD ⟨0,0,none⟩).add (offp pa+s*k))) n (max n (c.getD (β z).2))
 | .agg l=>.agg ((denL β l).flatMap fun v=>v.cells.toList.map sane).toArray
 | .arr n k f=>.agg ((List.range n).flatMap fun i=>fit k (((f i).den β).cells.toList.map sane)).toArray
 | .tup l=>.tuple (denL β l).toArray
 | .fn f caps=>.func (.func f) #[] (denL β caps).toArray
 | .yl id=>match (β id).1 with|some a=>.func (.yield a.block) #[] #[]|none=>.nilFunc
 | .nilf=>.nilFunc
 | .gd b v=>bif b then v.den β else .tuple #[]
def denL (β : Env):List SV→List Value
 | []=>[]
 | x::l=>x.den β :: denL β l
end
mutual
def SV.size:SV→Nat
 | .agg l=>sizeL l
 | .arr n k _=>n*k
 | .gd b v=>bif b then v.size else 1
 | _=>1
def sizeL:List SV→Nat
 | []=>0
 | x::l=>x.size+sizeL l
end
def SV.isAgg:SV→Bool
 | .agg _=>true
 | .arr ..=>true
 | _=>false
def SV.plain:SV→Bool
 | .tup _=>false
 | .gd ..=>false
 | _=>true
def SV.cl (β : Env)(v:SV):List Value:=(v.den β).cells.toList.map sane
def clL (β : Env)(l:List SV):List Value:=(denL β l).flatMap fun v=>v.cells.toList.map sane
section
variable {β : Env}
theorem clL_nil:clL β []=[]:=rfl
theorem clL_cons (x:SV)(l:List SV):clL β (x::l)=x.cl β ++ clL β l:=by simp[clL,denL,SV.cl]
theorem clL_append (l m:List SV):clL β (l++m)=clL β l++clL β m:=by
 induction l with
 | nil=>rfl
 | cons x l ih=>rw[List.cons_append,clL_cons,clL_cons,ih,List.append_assoc]
theorem map_sane {l:List Value}(h:∀x∈l,sane x=x):l.map sane=l:=by
 conv=>rhs;rw[←List.map_id l]
 exact List.map_congr_left h
theorem sane_fit (k:Nat)(l:List Value)(h:∀x∈l,sane x=x):∀x∈fit k l,sane x=x:=by
 intro x hx
 unfold fit at hx
 rcases List.mem_append.1 hx with hx|hx
 ·exact h x (List.mem_of_mem_take hx)
 ·obtain⟨_,rfl⟩:=List.mem_replicate.1 hx;rfl
theorem cl_sane (v:SV):∀x∈v.cl β,sane x=x:=by
 intro x hx
 obtain⟨y,_,rfl⟩:=List.mem_map.1 hx
 exact sane_sane y
theorem clL_sane (l:List SV):∀x∈clL β l,sane x=x:=by
 intro x hx
 obtain⟨v,_,hx⟩:=List.mem_flatMap.1 hx
 obtain⟨y,_,rfl⟩:=List.mem_map.1 hx
 exact sane_sane y
theorem cells_agg (l:List SV):((SV.agg l).den β).cells.toList=clL β l:=by simp[SV.den,Value.cells,clL]
theorem cells_arr (n k:Nat)(f:Nat→SV):((SV.arr n k f).den β).cells.toList=(List.range n).flatMap fun i=>fit k ((f i).cl β):=by simp[SV.den,Value.cells,SV.cl]
theorem cl_agg (l:List SV):(SV.agg l).cl β = clL β l:=by
 unfold SV.cl
 rw[cells_agg,map_sane (clL_sane l)]
theorem cl_arr (n k:Nat)(f:Nat→SV):(SV.arr n k f).cl β =(List.range n).flatMap fun i=>fit k ((f i).cl β):=by
 show (((SV.arr n k f).den β).cells.toList).map sane=_
 rw[cells_arr,map_sane]
 intro x hx
 obtain⟨i,_,hx⟩:=List.mem_flatMap.1 hx
 exact sane_fit _ _ (cl_sane _) x hx
theorem flatMap_fit_length (n k:Nat)(g:Nat→List Value):((List.range n).flatMap fun i=>fit k (g i)).length=n*k:=by
 induction n with
 | zero=>simp
 | succ n ih=>rw[List.range_succ,List.flatMap_append,List.length_append,ih];simp[fit_length,Nat.succ_mul]
mutual
theorem z6_:∀v:SV,(v.cl β).length=v.size
 | .agg l=>by rw[cl_agg,clL_length l];rfl
 | .arr n k f=>by rw[cl_arr,flatMap_fit_length];rfl
 | .gd b v=>by
   have:=z6_ v
   simp only[SV.cl,SV.den,SV.size]at this ⊢
   cases b with
   | true=>exact this
   | false=>rfl
 | .int k n=>rfl
 | .nat k n=>rfl
 | .bool b=>rfl
 | .str s=>rfl
 | .nilp=>rfl
 | .ptr id pa=>rfl
 | .sl z id pa k s n c=>rfl
 | .tup l=>rfl
 | .fn f caps=>rfl
 | .yl id=>by
   simp only[SV.cl,SV.den,SV.size]
   split<;>rfl
 | .nilf=>rfl
theorem clL_length:∀l:List SV,(clL β l).length=sizeL l
 | []=>rfl
 | x::l=>by rw[clL_cons,List.length_append,z6_ x,clL_length l];rfl
end
theorem den_agg {v:SV}(h:v.isAgg=true):v.den β = .agg (v.cl β).toArray:=by
 cases v<;>first |(cases h;done)|skip
 ·rw[cl_agg,←cells_agg];simp[SV.den,Value.cells]
 ·rw[cl_arr,←cells_arr];simp[SV.den,Value.cells]
theorem den_cell {v:SV}(h:v.isAgg=false)(hp:v.plain=true):v.cl β = [v.den β]:=by
 cases v<;>first |(cases h;done) |(cases hp;done)|rfl |(simp only[SV.cl,SV.den];split<;>rfl)
end
def nav:SV→List Stp→Option (Prop×SV)
 | v,[]=>some (True,v)
 | .agg l,.f j o::pa=>match l[j]? with
  | some x=>bif Nat.beq (sizeL (l.take j)) o then nav x pa else none
  | none=>none
 | .agg l,.i m k::pa=>match l[m]? with
  | some x=>bif Nat.beq (sizeL (l.take m)) (m*k)then nav x pa else none
  | none=>none
 | .arr n k f,.i m k'::pa=>bif Nat.beq k k' && Nat.beq (f m).size k then
   match nav (f m) pa with
   | some (c,u)=>some (m < n∧c,u)
   | none=>none
  else none
 | _,_=>none
theorem take_add_one_of {α : Type}{l:List α}{j:Nat}{x:α}(h:l[j]? = some x):l=l.take j++x::l.drop (j+1):=by
 have hj:j < l.length:=by
  rcases Nat.lt_or_ge j l.length with h'|h'
  ·exact h'
  ·rw[List.getElem?_eq_none h']at h;cases h
 have hx:l[j]=x:=by rw[List.getElem?_eq_getElem hj]at h;injection h
 rw[←hx,←List.drop_eq_getElem_cons hj,List.take_append_drop]
theorem range_split {n m:Nat}(h:m < n):List.range n=List.range m++m::(List.range (n - m - 1)).map (· + (m+1)):=by
 apply List.ext_getElem
 ·simp;omega
 ·intro i h1 h2
  simp only[List.getElem_range,List.getElem_append,List.getElem_cons,List.length_range,List.getElem_map]
  split
  ·rfl
  ·split<;>omega
theorem nav_spec (β : Env):∀(pa:List Stp) (v:SV) (c:Prop) (u:SV),nav v pa=some (c,u)→c →
  ∃pre post,v.cl β = pre++u.cl β ++ post∧pre.length=offp pa
 | [],v,c,u,h,hc=>by
  simp only[nav,Option.some.injEq,Prod.mk.injEq]at h
  obtain⟨_,rfl⟩:=h
  exact⟨[],[],by simp,rfl⟩
 | .f j o::pa,v,c,u,h,hc=>by
  cases v<;>simp only[nav]at h<;>try (cases h;done)
  rename_i l
  split at h
  ·rename_i x hx
   cases hb:Nat.beq (sizeL (l.take j)) o with
   | false=>rw[hb]at h;cases h
   | true=>
    rw[hb]at h
    obtain⟨pre,post,he,hl⟩:=nav_spec β pa x c u h hc
    have ho:=Nat.eq_of_beq_eq_true hb
    refine⟨clL β (l.take j)++pre,post++clL β (l.drop (j+1)),?_,?_⟩
    ·rw[cl_agg]
     conv=>lhs;rw[take_add_one_of hx]
     rw[clL_append,clL_cons,he]
     simp[List.append_assoc]
    ·exact k1_
  ·cases h
 | .i m k'::pa,v,c,u,h,hc=>by
  cases v<;>simp only[nav]at h<;>try (cases h;done)
  ·rename_i l
   split at h
   ·rename_i x hx
    cases hb:Nat.beq (sizeL (l.take m)) (m*k')with
    | false=>rw[hb]at h;cases h
    | true=>
     rw[hb]at h
     obtain⟨pre,post,he,hl⟩:=nav_spec β pa x c u h hc
     have ho:=Nat.eq_of_beq_eq_true hb
     refine⟨clL β (l.take m)++pre,post++clL β (l.drop (m+1)),?_,?_⟩
     ·rw[cl_agg]
      conv=>lhs;rw[take_add_one_of hx]
      rw[clL_append,clL_cons,he]
      simp[List.append_assoc]
     ·exact k1_
   ·cases h
  ·rename_i n k f
   cases hb:Nat.beq k k' && Nat.beq (f m).size k with
   | false=>rw[hb]at h;cases h
   | true=>
    rw[hb]at h
    simp only[cond_true]at h
    rw[Bool.and_eq_true]at hb
    have hk:=Nat.eq_of_beq_eq_true hb.1
    have hs:=Nat.eq_of_beq_eq_true hb.2
    subst hk
    split at h
    ·rename_i c' u' hn
     simp only[Option.some.injEq,Prod.mk.injEq]at h
     obtain⟨rfl,rfl⟩:=h
     obtain⟨pre,post,he,hl⟩:=nav_spec β pa (f m) c' u' hn hc.2
     refine⟨((List.range m).flatMap fun i=>fit k ((f i).cl β))++pre,post++((List.range (n - m - 1)).map (· + (m+1))).flatMap (fun i=>fit k ((f i).cl β)),?_,?_⟩
     ·rw[cl_arr,range_split hc.1,List.flatMap_append,List.flatMap_cons,fit_eq (by rw[z6_,hs]),he]
      simp[List.append_assoc]
     ·rw[List.length_append,flatMap_fit_length,hl];rfl
    ·cases h
mutual
def SV.ite (c:Bool):SV→SV→SV
 | .int k m,b=>match b with
  | .int k' n=>if k=k' then .int k (bif c then m else n)else bif c then .int k m else b
  | b=>bif c then .int k m else b
 | .nat k m,b=>match b with
  | .nat k' n=>if k=k' then .nat k (bif c then m else n)else bif c then .nat k m else b
  | b=>bif c then .nat k m else b
 | .bool m,b=>match b with
  | .bool n=>.bool (bif c then m else n)
  | b=>bif c then .bool m else b
 | .agg l,b=>match b with
  | .agg l'=>if l.length=l'.length then .agg (iteL c l l')else bif c then .agg l else b
  | b=>bif c then .agg l else b
 | .arr n k f,b=>match b with
  | .arr n' k' f'=>if n=n'∧k=k' then .arr n k fun i=>(f i).ite c (f' i)else bif c then .arr n k f else b
  | b=>bif c then .arr n k f else b
 | a,b=>bif c then a else b
def iteL (c:Bool):List SV→List SV→List SV
 | [],_=>[]
 | x::l,m=>match m with
  | []=>x::l
  | y::m=>x.ite c y::iteL c l m
end
mutual
theorem xk_:∀(c:Bool) (a b:SV),SV.ite c a b=bif c then a else b
 | c,.int k m,b=>by
  cases b<;>simp only[SV.ite]
  split
  ·rename_i h;subst h;cases c<;>rfl
  ·rfl
 | c,.nat k m,b=>by
  cases b<;>simp only[SV.ite]
  split
  ·rename_i h;subst h;cases c<;>rfl
  ·rfl
 | c,.bool m,b=>by
  cases b<;>simp only[SV.ite]
  cases c<;>rfl
 | c,.agg l,b=>by
  cases b<;>simp only[SV.ite]
  rename_i l'
  split
  ·rename_i h;rw[iteL_eq c l l' h];cases c<;>rfl
  ·rfl
 | c,.arr n k f,b=>by
  cases b<;>simp only[SV.ite]
  rename_i n' k' f'
  split
  ·rename_i h
   obtain⟨rfl,rfl⟩:=h
   have:(fun i=>(f i).ite c (f' i))=bif c then f else f':=by
    funext i
    rw[xk_ c (f i) (f' i)]
    cases c<;>rfl
   rw[this];cases c<;>rfl
  ·rfl
 | c,.str _,b=>rfl
 | c,.nilp,b=>rfl
 | c,.ptr _ _,b=>rfl
 | c,.sl ..,b=>rfl
 | c,.tup _,b=>rfl
 | c,.fn _ _,b=>rfl
 | c,.yl _,b=>rfl
 | c,.nilf,b=>rfl
 | c,.gd _ _,b=>rfl
theorem iteL_eq:∀(c:Bool) (l m:List SV),l.length=m.length→iteL c l m=bif c then l else m
 | c,[],m,h=>by
  cases m with
  | nil=>cases c<;>rfl
  | cons y m=>cases h
 | c,x::l,m,h=>by
  cases m with
  | nil=>cases h
  | cons y m=>
   simp only[iteL]
   rw[xk_ c x y,iteL_eq c l m (by simpa using h)]
   cases c<;>rfl
end
def setp:SV→List Stp→SV→Option SV
 | _,[],x=>some x
 | .agg l,.f j _::pa,x=>match l[j]? with
  | some y=>match setp y pa x with
   | some y'=>some (.agg (l.set j y'))
   | none=>none
  | none=>none
 | .agg l,.i j _::pa,x=>match l[j]? with
  | some y=>match setp y pa x with
   | some y'=>some (.agg (l.set j y'))
   | none=>none
  | none=>none
 | .arr n k f,.i m _::pa,x=>match setp (f m) pa x with
  | some y'=>some (.arr n k fun j=>SV.ite (decide (j=m)) y' (f j))
  | none=>none
 | _,_,_=>none
theorem sizeL_append (l m:List SV):sizeL (l++m)=sizeL l+sizeL m:=by
 induction l with
 | nil=>simp[sizeL]
 | cons x l ih=>simp only[List.cons_append,sizeL,ih];omega
theorem setp_spec (β : Env):∀(pa:List Stp) (v:SV) (c:Prop) (u x v':SV),nav v pa=some (c,u)→c→x.size=u.size→setp v pa x=some v' →
  v'.size=v.size∧∃pre post,v.cl β = pre++u.cl β ++ post∧v'.cl β = pre++x.cl β ++ post∧pre.length=offp pa
 | [],v,c,u,x,v',h,hc,hx,hs=>by
  simp only[nav,Option.some.injEq,Prod.mk.injEq]at h
  obtain⟨_,rfl⟩:=h
  simp only[setp,Option.some.injEq]at hs
  subst hs
  exact⟨hx,[],[],by simp,by simp,rfl⟩
 | .f j o::pa,v,c,u,x,v',h,hc,hx,hs=>by
  cases v<;>simp only[nav]at h<;>try (cases h;done)
  rename_i l
  split at h
  ·rename_i y hy
   cases hb:Nat.beq (sizeL (l.take j)) o with
   | false=>rw[hb]at h;cases h
   | true=>
    rw[hb]at h
    simp only[setp,hy]at hs
    split at hs
    ·rename_i y' hy'
     simp only[Option.some.injEq]at hs
     subst hs
     obtain⟨hz,pre,post,he,he',hl⟩:=setp_spec β pa y c u x y' h hc hx hy'
     have ho:=Nat.eq_of_beq_eq_true hb
     have e1:=take_add_one_of hy
     have hj:j < l.length:=by
      rcases Nat.lt_or_ge j l.length with h'|h'
      ·exact h'
      ·rw[List.getElem?_eq_none h']at hy;cases hy
     have e2:l.set j y'=l.take j++y'::l.drop (j+1):=List.set_eq_take_append_cons_drop .. |>.trans (by rw[if_pos hj])
     refine⟨?_,clL β (l.take j)++pre,post++clL β (l.drop (j+1)),?_,?_,?_⟩
     ·show sizeL (l.set j y')=sizeL l
      rw[e2]
      conv=>rhs;rw[e1]
      rw[sizeL_append,sizeL_append]
      simp only[sizeL,hz]
     ·rw[cl_agg]
      conv=>lhs;rw[e1]
      rw[clL_append,clL_cons,he]
      simp[List.append_assoc]
     ·rw[cl_agg,e2,clL_append,clL_cons,he']
      simp[List.append_assoc]
     ·exact k1_
    ·cases hs
  ·cases h
 | .i m k'::pa,v,c,u,x,v',h,hc,hx,hs=>by
  cases v<;>simp only[nav]at h<;>try (cases h;done)
  ·rename_i l
   split at h
   ·rename_i y hy
    cases hb:Nat.beq (sizeL (l.take m)) (m*k')with
    | false=>rw[hb]at h;cases h
    | true=>
     rw[hb]at h
     simp only[setp,hy]at hs
     split at hs
     ·rename_i y' hy'
      simp only[Option.some.injEq]at hs
      subst hs
      obtain⟨hz,pre,post,he,he',hl⟩:=setp_spec β pa y c u x y' h hc hx hy'
      have ho:=Nat.eq_of_beq_eq_true hb
      have e1:=take_add_one_of hy
      have hj:m < l.length:=by
       rcases Nat.lt_or_ge m l.length with h'|h'
       ·exact h'
       ·rw[List.getElem?_eq_none h']at hy;cases hy
      have e2:l.set m y'=l.take m++y'::l.drop (m+1):=List.set_eq_take_append_cons_drop .. |>.trans (by rw[if_pos hj])
      refine⟨?_,clL β (l.take m)++pre,post++clL β (l.drop (m+1)),?_,?_,?_⟩
      ·show sizeL (l.set m y')=sizeL l
       rw[e2]
       conv=>rhs;rw[e1]
       rw[sizeL_append,sizeL_append]
       simp only[sizeL,hz]
      ·rw[cl_agg]
       conv=>lhs;rw[e1]
       rw[clL_append,clL_cons,he]
       simp[List.append_assoc]
      ·rw[cl_agg,e2,clL_append,clL_cons,he']
       simp[List.append_assoc]
      ·exact k1_
     ·cases hs
   ·cases h
  ·rename_i n k f
   cases hb:Nat.beq k k' && Nat.beq (f m).size k with
   | false=>rw[hb]at h;cases h
   | true=>
    rw[hb]at h
    simp only[cond_true]at h
    rw[Bool.and_eq_true]at hb
    have hk:=Nat.eq_of_beq_eq_true hb.1
    have hsz:=Nat.eq_of_beq_eq_true hb.2
    subst hk
    split at h
    ·rename_i c' u' hn
     simp only[Option.some.injEq,Prod.mk.injEq]at h
     obtain⟨rfl,rfl⟩:=h
     simp only[setp]at hs
     split at hs
     ·rename_i y' hy'
      simp only[Option.some.injEq]at hs
      subst hs
      obtain⟨hz,pre,post,he,he',hl⟩:=setp_spec β pa (f m) c' u' x y' hn hc.2 hx hy'
      have hf:(fun j=>SV.ite (decide (j=m)) y' (f j))=fun j=>if j=m then y' else f j:=by
       funext j
       rw[xk_]
       by_cases hjm:j=m<;>simp[hjm]
      rw[hf]
      have far:∀l:List Nat,(∀i∈l,i≠m)→l.flatMap (fun i=>fit k (((fun j=>if j=m then y' else f j) i).cl β))=l.flatMap (fun i=>fit k ((f i).cl β)):=by
       intro l hl
       induction l with
       | nil=>rfl
       | cons i l ih=>
        rw[List.flatMap_cons,List.flatMap_cons,ih fun i hi=>hl i (.tail _ hi)]
        have:=hl i (.head _)
        simp[this]
      refine⟨rfl,((List.range m).flatMap fun i=>fit k ((f i).cl β))++pre,post++((List.range (n - m - 1)).map (· + (m+1))).flatMap (fun i=>fit k ((f i).cl β)),?_,?_,?_⟩
      ·rw[cl_arr,range_split hc.1,List.flatMap_append,List.flatMap_cons,fit_eq (by rw[z6_,hsz]),he]
       simp[List.append_assoc]
      ·rw[cl_arr,range_split hc.1,List.flatMap_append,List.flatMap_cons]
       rw[far _ (by intro i hi;simp at hi;omega),far _ (by intro i hi;simp at hi;omega)]
       have:fit k (((fun j=>if j=m then y' else f j) m).cl β)=y'.cl β:=by
        simp only[if_true]
        exact fit_eq (by rw[z6_,hz,hsz])
       rw[this,he']
       simp[List.append_assoc]
      ·rw[List.length_append,flatMap_fit_length,hl];rfl
     ·cases hs
    ·cases h
end Go.Proofs.YtjliakjbdcplcaaGreat.Vm
namespace Go.Proofs.YtjliakjbdcplcaaGreat.Vm
open Go.RowKit
inductive HB where
 | own (t:TypeId) (v:SV) (ex:Bool)
 | ro (v:SV)
 | raw (o:Obj)
 /-- it is there, but nothing is known of it -/
 | gone
 /-- not there yet -/
 | dead
def HB.born:HB→Bool
 | .dead=>false
 | _=>true
def HB.mine:HB→Bool
 | .own ..=>true
 | .raw _=>true
 | _=>false
def HB.val:HB→Option SV
 | .own _ v _=>some v
 | .ro v=>some v
 | _=>none
abbrev HM:=Nat→HB
def upd (h:HM)(i:Nat)(b:HB):HM:=fun j=>if j=i then b else h j
theorem zy_ (h:HM)(i:Nat)(b:HB):upd h i b i=b:=by simp[upd]
theorem yj_ {h:HM}{i j:Nat}{b:HB}(hn:j≠i):upd h i b j=h j:=by simp[upd,hn]
mutual
def zc_ (h:HM):SV→Prop
 | .ptr i _=>(h i).born=true
 | .sl z i _ _ _ _ _=>(h z).born=true∧(h i).born=true
 | .agg l=>ze_ h l
 | .arr _ _ f=>∀i,zc_ h (f i)
 | .tup l=>ze_ h l
 | .fn _ l=>ze_ h l
 | .yl i=>(h i).born=true
 | .gd b v=>b=true→zc_ h v
 | _=>True
def ze_ (h:HM):List SV→Prop
 | []=>True
 | x::l=>zc_ h x∧ze_ h l
end
theorem xb_ {h:HM}{l:List SV}:ze_ h l↔∀v∈l,zc_ h v:=by
 induction l with
 | nil=>simp[ze_]
 | cons x l ih=>simp[ze_,ih]
mutual
theorem zc_.more {h h':HM}(hm:∀i,(h i).born=true→(h' i).born=true):∀{v:SV},zc_ h v→zc_ h' v
 | .ptr i _,hs=>hm i hs
 | .sl z i _ _ _ _ _,hs=>⟨hm z hs.1,hm i hs.2⟩
 | .agg l,hs=>by simp only[zc_]at hs ⊢;exact ze_.more hm hs
 | .arr _ _ f,hs=>by simp only[zc_]at hs ⊢;exact fun i=>zc_.more hm (hs i)
 | .tup l,hs=>by simp only[zc_]at hs ⊢;exact ze_.more hm hs
 | .fn _ l,hs=>by simp only[zc_]at hs ⊢;exact ze_.more hm hs
 | .yl i,hs=>hm i hs
 | .gd _ v,hs=>by simp only[zc_]at hs ⊢;exact fun hb=>zc_.more hm (hs hb)
 | .int ..,_=>trivial
 | .nat ..,_=>trivial
 | .bool ..,_=>trivial
 | .str ..,_=>trivial
 | .nilp,_=>trivial
 | .nilf,_=>trivial
theorem ze_.more {h h':HM}(hm:∀i,(h i).born=true→(h' i).born=true):∀{l:List SV},ze_ h l→ze_ h' l
 | [],_=>trivial
 | x::l,hs=>⟨zc_.more hm hs.1,ze_.more hm hs.2⟩
end
mutual
theorem zc_.den {h:HM}{β β':Env}(hb:∀i,(h i).born=true→β i = β' i):∀{v:SV},zc_ h v→v.den β = v.den β'
 | .ptr i _,hs=>by simp only[SV.den];rw[hb i hs]
 | .sl z i _ _ _ _ _,hs=>by simp only[SV.den];rw[hb z hs.1,hb i hs.2]
 | .agg l,hs=>by simp only[zc_]at hs;simp only[SV.den];rw[ze_.den hb hs]
 | .arr n k f,hs=>by
   simp only[zc_]at hs
   simp only[SV.den]
   have:(fun i=>fit k (((f i).den β).cells.toList.map sane))=fun i=>fit k (((f i).den β').cells.toList.map sane):=funext fun i=>by rw[zc_.den hb (hs i)]
   rw[this]
 | .tup l,hs=>by simp only[zc_]at hs;simp only[SV.den];rw[ze_.den hb hs]
 | .fn _ l,hs=>by simp only[zc_]at hs;simp only[SV.den];rw[ze_.den hb hs]
 | .yl i,hs=>by simp only[SV.den];rw[hb i hs]
 | .gd b v,hs=>by
   simp only[zc_]at hs
   simp only[SV.den]
   cases b with
   | true=>exact zc_.den hb (hs rfl)
   | false=>rfl
 | .int ..,_=>rfl
 | .nat ..,_=>rfl
 | .bool ..,_=>rfl
 | .str ..,_=>rfl
 | .nilp,_=>rfl
 | .nilf,_=>rfl
theorem ze_.den {h:HM}{β β':Env}(hb:∀i,(h i).born=true→β i = β' i):∀{l:List SV},ze_ h l→denL β l=denL β' l
 | [],_=>rfl
 | x::l,hs=>by simp only[denL];rw[zc_.den hb hs.1,ze_.den hb hs.2]
end
theorem zc_.cl {h:HM}{v:SV}(hs:zc_ h v){β β':Env}(hb:∀i,(h i).born=true→β i = β' i):v.cl β = v.cl β':=by unfold SV.cl;rw[hs.den hb]
theorem zc_.upd {h:HM}{v:SV}{i:Nat}{b:HB}(hs:zc_ h v)(hb:b.born=true):zc_ (upd h i b) v:=
 hs.more fun j hj=>by unfold Vm.upd;split<;>simp_all
theorem zc_.of_nav {h:HM}:∀{pa:List Stp} {v u:SV} {c:Prop},zc_ h v→nav v pa=some (c,u)→zc_ h u
 | [],v,u,c,hs,hn=>by
  simp only[nav,Option.some.injEq,Prod.mk.injEq]at hn
  obtain⟨_,rfl⟩:=hn
  exact hs
 | .f j o::pa,v,u,c,hs,hn=>by
  cases v<;>simp only[nav]at hn<;>try (cases hn;done)
  rename_i l
  simp only[zc_]at hs
  split at hn
  ·rename_i x hx
   cases hb:Nat.beq (sizeL (l.take j)) o with
   | false=>rw[hb]at hn;cases hn
   | true=>rw[hb]at hn;exact zc_.of_nav (xb_.1 hs x (List.mem_of_getElem? hx)) hn
  ·cases hn
 | .i m k'::pa,v,u,c,hs,hn=>by
  cases v<;>simp only[nav]at hn<;>try (cases hn;done)
  ·rename_i l
   simp only[zc_]at hs
   split at hn
   ·rename_i x hx
    cases hb:Nat.beq (sizeL (l.take m)) (m*k')with
    | false=>rw[hb]at hn;cases hn
    | true=>rw[hb]at hn;exact zc_.of_nav (xb_.1 hs x (List.mem_of_getElem? hx)) hn
   ·cases hn
  ·rename_i n k f
   simp only[zc_]at hs
   cases hb:Nat.beq k k' && Nat.beq (f m).size k with
   | false=>rw[hb]at hn;cases hn
   | true=>
    rw[hb]at hn
    simp only[cond_true]at hn
    split at hn
    ·rename_i c' u' hn'
     simp only[Option.some.injEq,Prod.mk.injEq]at hn
     obtain⟨_,rfl⟩:=hn
     exact zc_.of_nav (hs m) hn'
    ·cases hn
theorem mem_set_of {α : Type}{l:List α}{j:Nat}{y x:α}(h:x∈l.set j y):x=y∨x∈l:=by
 rcases List.mem_or_eq_of_mem_set h with h|h
 ·exact .inr h
 ·exact .inl h
theorem zc_.of_setp {h:HM}:∀{pa:List Stp} {v x v':SV},zc_ h v→zc_ h x→setp v pa x=some v'→zc_ h v'
 | [],v,x,v',hv,hx,hs=>by
  simp only[setp,Option.some.injEq]at hs
  subst hs;exact hx
 | .f j o::pa,v,x,v',hv,hx,hs=>by
  cases v<;>simp only[setp]at hs<;>try (cases hs;done)
  rename_i l
  simp only[zc_]at hv
  split at hs
  ·exact d13_
  ·cases hs
 | .i m k'::pa,v,x,v',hv,hx,hs=>by
  cases v<;>simp only[setp]at hs<;>try (cases hs;done)
  ·rename_i l
   simp only[zc_]at hv
   split at hs
   ·exact d13_
   ·cases hs
  ·rename_i n k f
   simp only[zc_]at hv
   split at hs
   ·rename_i y' hy'
    injection hs with hs;subst hs
    simp only[zc_]
    intro i
    rw[xk_]
    cases decide (i=m)with
    | true=>exact zc_.of_setp (hv m) hx hy'
    | false=>exact hv i
   ·cases hs
def OwnB (β : Env)(w:World)(i:Nat)(t:TypeId)(v:SV)(ex:Bool):Prop:=
 (∃g cs,(β i).1=some ⟨g,0,none⟩∧w.heap[g]? = some (.cells cs t (0,0))∧(∃tl,cs.toList=v.cl β ++ tl∧(ex=true→tl=[]))∧∀n k f,v=.arr n k f→n≤(β i).2∧cs.size=(β i).2*k) ∨
 (β i=(none,0)∧ex=false∧∃k f,v=.arr 0 k f)
def Holds (β : Env)(w:World)(i:Nat):HB→Prop
 | .own t v ex=>OwnB β w i t v ex
 | .ro v=>(∀a,(β i).1=some a→∀j x,(v.cl β)[j]? = some x→w.cell? (a.add j)=some x)∧((β i).1=none→v.size=0)∧∀n k f,v=.arr n k f→n≤(β i).2
 | .raw o=>∃g,(β i).1=some ⟨g,0,none⟩∧w.heap[g]? = some o
 | .gone=>True
 | .dead=>True
def HB.stable (h:HM):HB→Prop
 | .own _ v _=>zc_ h v
 | .ro v=>zc_ h v
 | _=>True
theorem HB.stable_more {h h':HM}{b:HB}(hb:b.stable h)(hm:∀i,(h i).born=true→(h' i).born=true):b.stable h':=by
 cases b with
 | own t v ex=>exact zc_.more hm hb
 | ro v=>exact zc_.more hm hb
 | raw o=>trivial
 | gone=>trivial
 | dead=>trivial
structure Rep (w0:World) (M:Nat→Prop) (β : Env) (h:HM) (w:World):Prop where
 os:w.os=w0.os
 tape:w.tape=w0.tape
 output:w.output=w0.output
 size:w0.heap.size≤w.heap.size
 frame:∀g,g < w0.heap.size→¬M g→w.heap[g]? = w0.heap[g]?
 nil:β 0=(none,0)
 nil0:h 0=.gone
 st:∀i,(h i).stable h
 blk:∀i,Holds β w i (h i)
 own:∀(i:Nat) (a:Addr),(h i).mine=true→(β i).1=some a→w0.heap.size≤a.block∨M a.block
 ro:∀(i:Nat) (v:SV) (a:Addr),h i=.ro v→(β i).1=some a→0 < v.size→a.block < w0.heap.size∧¬M a.block
 dist:∀(i j:Nat) (ai aj:Addr),i≠j→(h i).mine=true→(h j).mine=true→(β i).1=some ai→(β j).1=some aj→ai.block≠aj.block
 lt:∀(i:Nat) (a:Addr),(h i).mine=true→(β i).1=some a→a.block < w.heap.size
theorem block_add (a:Addr)(n:Nat):(a.add n).block=a.block:=by unfold Addr.add;split<;>rfl
theorem add_add (a:Addr)(i j:Nat):(a.add i).add j=a.add (i+j):=by
 unfold Addr.add
 by_cases hi:i=0<;>by_cases hj:j=0<;>simp[hi,hj,Nat.add_assoc]
theorem offp_append (p q:List Stp):offp (p++q)=offp p+offp q:=by
 induction p with
 | nil=>simp[offp]
 | cons s p ih=>simp only[List.cons_append,offp,ih,Nat.add_assoc]
theorem cell_at (w:World)(g o:Nat)(cs:Array Value)(t:TypeId)(h:w.heap[g]? = some (.cells cs t (0,0))):w.cell? ((⟨g,0,none⟩:Addr).add o)=cs[o]? := by
 have:(⟨g,0,none⟩:Addr).add o=⟨g,o,none⟩:=by unfold Addr.add;split<;>simp_all
 rw[this]
 simp[World.cell?,h]
theorem holds_cell {β : Env}{w:World}{i:Nat}{b:HB}{v:SV}(hv:b.val=some v)(h:Holds β w i b) :
  (∃a,(β i).1=some a∧∀j x,(v.cl β)[j]? = some x→w.cell? (a.add j)=some x)∨((β i).1=none∧v.size=0):=by
 cases b with
 | own t v' ex=>
  injection hv with hv;subst hv
  rcases h with ⟨g,cs,ha,hg,⟨tl,hcs,_⟩,_⟩|⟨hb,_,k,f,rfl⟩
  ·refine .inl ⟨_,ha,fun j x hx=>?_⟩
   rw[cell_at w g j cs t hg,←Array.getElem?_toList,hcs]
   rw[List.getElem?_append_left]
   ·exact hx
   ·rcases Nat.lt_or_ge j (v'.cl β).length with h'|h'
    ·exact h'
    ·rw[List.getElem?_eq_none h']at hx;cases hx
  ·exact .inr ⟨by rw[hb],by simp[SV.size]⟩
 | ro v'=>
  injection hv with hv;subst hv
  cases hb:(β i).1 with
  | none=>exact .inr ⟨rfl,h.2.1 hb⟩
  | some a=>exact .inl ⟨a,rfl,h.1 a hb⟩
 | raw o=>cases hv
 | gone=>cases hv
 | dead=>cases hv
theorem cells_at {β : Env}{w:World}{i:Nat}{b:HB}(hR:Holds β w i b){v u:SV}{pa:List Stp}{c:Prop}(hv:b.val=some v)(hn:nav v pa=some (c,u))(hc:c)(hu:0 < u.size) :
  ∃a,(β i).1=some a∧∀j x,(u.cl β)[j]? = some x→w.cell? ((a.add (offp pa)).add j)=some x:=by
 obtain⟨pre,post,he,hl⟩:=nav_spec β pa v c u hn hc
 rcases holds_cell hv hR with ⟨a,ha,hcell⟩|⟨_,h0⟩
 ·refine⟨a,ha,fun j x hx=>?_⟩
  rw[add_add]
  refine hcell _ _ ?_
  rw[he,←hl,List.append_assoc,List.getElem?_append_right (by omega),Nat.add_sub_cancel_left,List.getElem?_append_left]
  ·exact hx
  ·rcases Nat.lt_or_ge j (u.cl β).length with h'|h'
   ·exact h'
   ·rw[List.getElem?_eq_none h']at hx;cases hx
 ·have:(v.cl β).length=0:=by rw[z6_,h0]
  rw[he]at this
  simp[z6_]at this
  omega
def setE (β : Env)(m:Nat)(e:Option Addr×Nat):Env:=fun i=>if i=m then e else β i
theorem yg_ (β : Env)(m:Nat)(e:Option Addr×Nat):setE β m e m=e:=by simp[setE]
theorem xy_ {β : Env}{m i:Nat}{e:Option Addr×Nat}(h:i≠m):setE β m e i = β i:=by simp[setE,h]
theorem holds_env {β β':Env}{w:World}{i:Nat}{h:HM}{b:HB}(hs:b.stable h)(hb:∀j,(h j).born=true→β j = β' j)(hi:β i = β' i)(hh:Holds β w i b):Holds β' w i b:=by
 cases b with
 | own t v ex=>
  rcases hh with ⟨g,cs,ha,hg,⟨tl,hcs,hex⟩,hn⟩|⟨hb0,he,k,f,rfl⟩
  ·exact .inl ⟨g,cs,hi ▸ ha,hg,⟨tl,by rw[←zc_.cl hs hb];exact hcs,hex⟩,by rw[←hi];exact hn⟩
  ·exact .inr ⟨hi ▸ hb0,he,k,f,rfl⟩
 | ro v=>
  refine⟨fun a ha j x hx=>hh.1 a (hi ▸ ha) j x (by rw[zc_.cl hs hb];exact hx),fun hn=>hh.2.1 (hi ▸ hn),by rw[←hi];exact hh.2.2⟩
 | raw o=>
  obtain⟨g,h1,h2⟩:=hh
  exact⟨g,hi ▸ h1,h2⟩
 | gone=>trivial
 | dead=>trivial
theorem size_pos_of_cell {β : Env}{v:SV}{j:Nat}{x:Value}(hx:(v.cl β)[j]? = some x):0 < v.size:=by
 rcases Nat.eq_zero_or_pos v.size with h0|h0
 ·have:(v.cl β).length=0:=by rw[z6_,h0]
  rw[List.eq_nil_of_length_eq_zero this]at hx;cases hx
 ·exact h0
theorem holds_world {β : Env}{w w':World}{i:Nat}{b:HB}(h:Holds β w i b)
  (hk:∀a,(β i).1=some a→(b.mine=true∨∃v,b=.ro v∧0 < v.size)→w'.heap[a.block]? = w.heap[a.block]?):Holds β w' i b:=by
 cases b with
 | own t v ex=>
  rcases h with ⟨g,cs,ha,hg,hr,hn⟩|h
  ·exact .inl ⟨g,cs,ha,(hk _ ha (.inl rfl)).trans hg,hr,hn⟩
  ·exact .inr h
 | ro v=>
  refine⟨fun a ha j x hx=>?_,h.2⟩
  have:=h.1 a ha j x hx
  unfold World.cell? at this ⊢
  rw[block_add]at this ⊢
  rw[hk a ha (.inr ⟨v,rfl,size_pos_of_cell hx⟩)];exact this
 | raw o=>
  obtain⟨g,ha,hg⟩:=h
  exact⟨g,ha,(hk _ ha (.inl rfl)).trans hg⟩
 | gone=>trivial
 | dead=>trivial
section
variable {w0:World} {M:Nat→Prop} {β : Env} {h:HM} {w:World}
theorem Rep.keep {w':World}(R:Rep w0 M β h w)(ho:w'.os=w.os)(ht:w'.tape=w.tape)(hu:w'.output=w.output)(hs:w.heap.size≤w'.heap.size)
  (hk:∀g,g < w.heap.size→w'.heap[g]? = w.heap[g]?):Rep w0 M β h w':=
 {os:=ho.trans R.os,tape:=ht.trans R.tape,output:=hu.trans R.output,size:=Nat.le_trans R.size hs
  frame:=fun g hg hm=>(hk g (Nat.lt_of_lt_of_le hg R.size)).trans (R.frame g hg hm)
  nil:=R.nil,nil0:=R.nil0,st:=R.st
  blk:=fun i=>holds_world (R.blk i) fun a ha hm=>hk _ <| by
   rcases hm with hm|⟨v,hv,hz⟩
   ·exact R.lt i a hm ha
   ·exact Nat.lt_of_lt_of_le (R.ro i v a hv ha hz).1 R.size
  own:=R.own,ro:=R.ro,dist:=R.dist
  lt:=fun i a hm ha=>Nat.lt_of_lt_of_le (R.lt i a hm ha) hs }
theorem Rep.drew (R:Rep w0 M β h w):Rep w0 M β h w.drew:=R.keep rfl rfl rfl (Nat.le_refl _) fun _ _=>rfl
theorem Rep.drawn (R:Rep w0 M β h w):Rep w0 M β h { w with drawn:=w.drawn+1 }:=R.keep rfl rfl rfl (Nat.le_refl _) fun _ _=>rfl
theorem Rep.birth (R:Rep w0 M β h w)(m:Nat)(hm:h m=.dead)(e:Option Addr×Nat)(b:HB)(hst:b.stable (upd h m b))(hbn:b.born=true)(hb:Holds (setE β m e) w m b)
  (hmine:∀a,b.mine=true→e.1=some a→(w0.heap.size≤a.block∨M a.block)∧a.block < w.heap.size∧∀i a',(h i).mine=true→(β i).1=some a'→a'.block≠a.block)
  (hro:∀v a,b=.ro v→e.1=some a→0 < v.size→a.block < w0.heap.size∧¬M a.block):Rep w0 M (setE β m e) (upd h m b) w:=by
 have hm0:m≠0:=by rintro rfl;rw[R.nil0]at hm;cases hm
 have hag:∀i,(h i).born=true→β i=setE β m e i:=fun i hi=>(xy_ (by rintro rfl;rw[hm]at hi;cases hi)).symm
 refine { os:=R.os,tape:=R.tape,output:=R.output,size:=R.size,frame:=R.frame,nil:=by rw[xy_ (Ne.symm hm0)];exact R.nil,nil0:=by rw[yj_ (Ne.symm hm0)];exact R.nil0,st:=?_,blk:=?_,own:=?_,ro:=?_,dist:=?_,lt:=?_ }
 ·intro i
  by_cases hi:i=m
  ·subst hi;rw[zy_];exact hst
  ·rw[yj_ hi];exact HB.stable_more (R.st i) fun j hj=>by unfold upd;split<;>simp_all
 ·intro i
  by_cases hi:i=m
  ·subst hi;rw[zy_];exact hb
  ·rw[yj_ hi];exact holds_env (R.st i) hag (xy_ hi).symm (R.blk i)
 ·intro i a hmi ha
  by_cases hi:i=m
  ·subst hi;rw[zy_]at hmi;rw[yg_]at ha;exact(hmine a hmi ha).1
  ·rw[yj_ hi]at hmi;rw[xy_ hi]at ha;exact R.own i a hmi ha
 ·intro i v a hv ha hz
  by_cases hi:i=m
  ·subst hi;rw[zy_]at hv;rw[yg_]at ha;exact hro v a hv ha hz
  ·rw[yj_ hi]at hv;rw[xy_ hi]at ha;exact R.ro i v a hv ha hz
 ·intro i j ai aj hne hmi hmj hai haj
  by_cases hi:i=m<;>by_cases hj:j=m
  ·exact absurd (hi.trans hj.symm) hne
  ·subst hi;rw[zy_]at hmi;rw[yg_]at hai;rw[yj_ hj]at hmj;rw[xy_ hj]at haj
   exact Ne.symm ((hmine ai hmi hai).2.2 j aj hmj haj)
  ·subst hj;rw[zy_]at hmj;rw[yg_]at haj;rw[yj_ hi]at hmi;rw[xy_ hi]at hai
   exact(hmine aj hmj haj).2.2 i ai hmi hai
  ·rw[yj_ hi]at hmi;rw[xy_ hi]at hai;rw[yj_ hj]at hmj;rw[xy_ hj]at haj
   exact R.dist i j ai aj hne hmi hmj hai haj
 ·intro i a hmi ha
  by_cases hi:i=m
  ·subst hi;rw[zy_]at hmi;rw[yg_]at ha;exact(hmine a hmi ha).2.1
  ·rw[yj_ hi]at hmi;rw[xy_ hi]at ha;exact R.lt i a hmi ha
theorem ym_ {β : Env}{h:HM}{m:Nat}{e:Option Addr×Nat}(hm:h m=.dead):∀i,(h i).born=true→β i=setE β m e i:=
 fun i hi=>(xy_ (by rintro rfl;rw[hm]at hi;cases hi)).symm
theorem Rep.alloc (R:Rep w0 M β h w)(m:Nat)(hm:h m=.dead)(cap:Nat)(t:TypeId)(v:SV)(hst:zc_ h v)(hn:∀n k f,v=.arr n k f→n=cap) :
  Rep w0 M (setE β m (some ⟨w.heap.size,0,none⟩,cap)) (upd h m (.own t v true)) (w.alloc (.cells (v.cl β).toArray t)):=by
 have R':=R.keep (w':=w.alloc (.cells (v.cl β).toArray t)) rfl rfl rfl (by simp) fun g hg=>Below.heap_alloc w _ g hg
 refine R'.birth m hm _ _ (zc_.upd hst rfl) rfl (.inl ⟨w.heap.size,_,by rw[yg_],heap_alloc_new _ _,⟨[],by rw[List.append_nil];exact hst.cl (ym_ hm),fun _=>rfl⟩,fun n k f hv=>?_⟩) (fun a _ ha=>?_) (fun v a hv=>by cases hv)
 ·have:=hn n k f hv
  subst hv;subst this
  rw[yg_]
  refine⟨Nat.le_refl _,?_⟩
  rw[List.size_toArray,z6_];rfl
 ·injection ha with ha
  subst ha
  exact⟨.inl R.size,by simp,fun i a' hc ha'=>Nat.ne_of_lt (R.lt i a' hc ha')⟩
theorem setp_top {v v' x:SV}{s:Stp}{pa:List Stp}(h:setp v (s::pa) x=some v'):(∀n k f,v'=.arr n k f→∃f0,v=.arr n k f0)∧v'.isAgg=true:=by
 cases v<;>cases s<;>simp only[setp]at h<;>try (cases h;done)
 ·exact d15_
 ·exact d15_
 ·split at h
  ·injection h with h;subst h
   refine⟨fun n k f h=>?_,rfl⟩
   injection h with h1 h2
   subst h1;subst h2
   exact⟨_,rfl⟩
  ·cases h
theorem sane_oneCell {v:Value}(h:sane v=v):v.oneCell'=true:=by
 cases v<;>first|rfl |(simp[sane]at h;done)
theorem Rep.set (R:Rep w0 M β h w){i:Nat}{t:TypeId}{v v':SV}{ex ex':Bool}{g:Nat}{cs:Array Value}(hb:h i=.own t v ex)(ha:(β i).1=some ⟨g,0,none⟩)
  (hst:zc_ h v') (hB:OwnB β (w.setRow g cs) i t v' ex'):Rep w0 M β (upd h i (.own t v' ex')) (w.setRow g cs):=by
 have hmi:(h i).mine=true:=by rw[hb];rfl
 have hg:=R.own i _ hmi ha
 have hi0:i≠0:=by rintro rfl;rw[R.nil0]at hb;cases hb
 have mine:∀j,(upd h i (.own t v' ex') j).mine=(h j).mine:=fun j=>by
  unfold upd;split
  ·rename_i e;subst e;rw[hb];rfl
  ·rfl
 have born:∀j,(h j).born=true→(upd h i (.own t v' ex') j).born=true:=fun j hj=>by
  unfold upd;split
  ·rfl
  ·exact hj
 refine { os:=R.os,tape:=R.tape,output:=R.output,size:=by rw[setRow_size];exact R.size,frame:=?_,nil:=R.nil,nil0:=by rw[yj_ (Ne.symm hi0)];exact R.nil0,st:=?_,blk:=?_,own:=?_,ro:=?_,dist:=?_,lt:=?_ }
 ·intro k hk hm
  have:k≠g:=by
   rintro rfl
   rcases hg with hg|hg
   ·exact absurd hk (by simpa using hg)
   ·exact hm hg
  rw[setRow_other w g k cs this]
  exact R.frame k hk hm
 ·intro j
  by_cases hj:j=i
  ·subst hj;rw[zy_];exact zc_.more born hst
  ·exact k2_
 ·intro j
  by_cases hj:j=i
  ·subst hj;rw[zy_];exact hB
  ·rw[yj_ hj]
   refine holds_world (R.blk j) fun a haj hk=>setRow_other w g a.block cs ?_
   rcases hk with hk|⟨v,hv,hz⟩
   ·exact R.dist j i a _ hj hk hmi haj ha
   ·intro e
    have hr:=R.ro j v a hv haj hz
    rcases hg with hg|hg
    ·exact absurd hr.1 (by rw[e];simpa using hg)
    ·exact hr.2 (by rw[e];exact hg)
 ·intro j a hm haj
  rw[mine]at hm
  exact R.own j a hm haj
 ·intro j v a hv haj hz
  by_cases hj:j=i
  ·subst hj;rw[zy_]at hv;cases hv
  ·rw[yj_ hj]at hv;exact R.ro j v a hv haj hz
 ·intro j k aj ak hne hmj hmk haj hak
  rw[mine]at hmj hmk
  exact R.dist j k aj ak hne hmj hmk haj hak
 ·intro j a hm haj
  rw[mine]at hm
  rw[setRow_size]
  exact R.lt j a hm haj
theorem Rep.store (R:Rep w0 M β h w){i:Nat}{t:TypeId}{v u x v':SV}{ex:Bool}{pa:List Stp}{c:Prop}(hb:h i=.own t v ex)(hn:nav v pa=some (c,u))(hc:c)
  (hx:x.size=u.size) (hu:0 < u.size) (hs:setp v pa x=some v') (hst:zc_ h x) (hk:∀n k f,v'=.arr n k f→∃f0,v=.arr n k f0) :
  ∃a w',(β i).1=some a∧(∀P:Program,(storeCells (a.add (offp pa)) (x.cl β)).run P w=.ok () w')∧Rep w0 M β (upd h i (.own t v' ex)) w':=by
 obtain⟨hz,pre,post,h1,h2,h3⟩:=setp_spec β pa v c u x v' hn hc hx hs
 have hB:=R.blk i
 have hS:=R.st i
 rw[hb]at hB hS
 rcases hB with ⟨g,cs,ha,hg,⟨tl,hcs,hex⟩,hsz⟩|⟨hb0,he,k,f,rfl⟩
 ·have hadd:(⟨g,0,none⟩:Addr).add (offp pa)=⟨g,offp pa,none⟩:=by unfold Addr.add;split<;>simp_all
  have hlen:cs.size=pre.length+(u.cl β).length+post.length+tl.length:=by
   rw[←Array.length_toList,hcs,h1];simp;omega
  have hxl:(x.cl β).length=(u.cl β).length:=by rw[z6_,z6_,hx]
  have hfin:(cs.toList.take (offp pa+0)++x.cl β ++ cs.toList.drop (offp pa+0+(x.cl β).length)).toArray=(v'.cl β ++ tl).toArray:=by
   congr 1
   rw[Nat.add_zero,hcs,h1,h2,←h3,hxl]
   have e1:(pre++u.cl β ++ post++tl).take pre.length=pre:=by simp[List.append_assoc]
   have e2:(pre++u.cl β ++ post++tl).drop (pre.length+(u.cl β).length)=post++tl:=by
    rw[←List.length_append,List.append_assoc,List.drop_left]
   rw[e1,e2]
   simp[List.append_assoc]
  refine⟨_,_,ha,fun P=>by rw[hadd];exact run_storeCells_at P g (offp pa) t (x.cl β) 0 cs w hg (by rw[hlen,hxl,h3];omega) (fun y hy=>sane_oneCell (cl_sane x y hy)),?_⟩
  refine R.set hb ha (zc_.of_setp hS hst hs) (.inl ⟨g,_,ha,setRow_heap w g cs _ t _ hg,⟨tl,by rw[hfin],hex⟩,fun n k f hv=>?_⟩)
  obtain⟨f0,hf0⟩:=hk n k f hv
  have:=hsz n k f0 hf0
  refine⟨this.1,?_⟩
  rw[hfin,←this.2,List.size_toArray,List.length_append,z6_,hz,←Array.length_toList,hcs,List.length_append,z6_]
 ·have:((SV.arr 0 k f).cl β).length=0:=by rw[z6_];simp[SV.size]
  rw[h1]at this
  simp[z6_]at this
  omega
theorem Rep.forget (R:Rep w0 M β h w)(i:Nat)(hi:(h i).born=true):Rep w0 M β (upd h i .gone) w:=by
 have mine:∀j,(upd h i .gone j).mine=true→(h j).mine=true:=fun j hj=>by
  unfold upd at hj;split at hj
  ·cases hj
  ·exact hj
 have born:∀j,(h j).born=true→(upd h i .gone j).born=true:=fun j hj=>by
  unfold upd;split
  ·rfl
  ·exact hj
 refine { os:=R.os,tape:=R.tape,output:=R.output,size:=R.size,frame:=R.frame,nil:=R.nil,nil0:=?_,st:=?_,blk:=?_,own:=?_,ro:=?_,dist:=?_,lt:=?_ }
 ·unfold upd;split
  ·rfl
  ·exact R.nil0
 ·intro j;by_cases hj:j=i
  ·subst hj;rw[zy_];trivial
  ·exact k2_
 ·intro j;by_cases hj:j=i
  ·subst hj;rw[zy_];trivial
  ·rw[yj_ hj];exact R.blk j
 ·exact fun j a hm ha=>R.own j a (mine j hm) ha
 ·intro j v a hv ha hz;by_cases hj:j=i
  ·subst hj;rw[zy_]at hv;cases hv
  ·rw[yj_ hj]at hv;exact R.ro j v a hv ha hz
 ·exact fun j k aj ak hne hmj hmk=>R.dist j k aj ak hne (mine j hmj) (mine k hmk)
 ·exact fun j a hm ha=>R.lt j a (mine j hm) ha
theorem Rep.move (R:Rep w0 M β h w)(i m:Nat)(hi:(h i).mine=true)(hm:h m=.dead):Rep w0 M (setE β m (β i)) (upd (upd h i .gone) m (h i)) w:=by
 have him:i≠m:=by rintro rfl;rw[hm]at hi;cases hi
 have R1:=R.forget i (by cases hh:h i<;>simp_all [HB.born,HB.mine])
 have hm1:upd h i .gone m=.dead:=by rw[yj_ (Ne.symm him)];exact hm
 have born:∀j,(h j).born=true→(upd (upd h i .gone) m (h i) j).born=true:=fun j hj=>by
  unfold upd;split
  ·cases hh:h i<;>simp_all [HB.born,HB.mine]
  ·split
   ·rfl
   ·exact hj
 refine R1.birth m hm1 _ _ (HB.stable_more (R.st i) born) (by cases hh:h i<;>simp_all [HB.born,HB.mine]) ?_ (fun a hmi ha=>⟨R.own i a hi ha,R.lt i a hi ha,fun j a' hj ha'=>?_⟩) (fun v a hv ha hz=>R.ro i v a hv ha hz)
 ·have hB:=holds_env (β':=setE β m (β i)) (R.st i) (ym_ hm) (xy_ him).symm (R.blk i)
  have e:(setE β m (β i)) i=(setE β m (β i)) m:=by rw[xy_ him,yg_]
  cases hh:h i with
  | own t v ex=>
   rw[hh]at hB
   simp only[Holds,OwnB,e]at hB ⊢
   exact hB
  | raw o=>rw[hh]at hB;simp only[Holds,e]at hB ⊢;exact hB
  | ro v=>rw[hh]at hi;cases hi
  | gone=>trivial
  | dead=>trivial
 ·by_cases hji:j=i
  ·subst hji;rw[zy_]at hj;cases hj
  ·rw[yj_ hji]at hj;exact R.dist j i a' a hji hj hi ha' ha
end
end Go.Proofs.YtjliakjbdcplcaaGreat.Vm
namespace Go.Proofs.YtjliakjbdcplcaaGreat.Vm
open Go.RowKit
abbrev Fr:=List (Nat×SV)
def look:Fr→Nat→Option SV
 | [],_=>none
 |(k,v)::l,t=>bif Nat.beq k t then some v else look l t
def ofV:Value→Option SV
 | .int k n=>match n with
  | .ofNat m=>some (.nat k m)
  | .negSucc _=>some (.int k n)
 | .bool b=>some (.bool b)
 | .string s=>some (.str s)
 | .pointer a=>match a with
  | none=>some .nilp
  | some _=>none
 | .slice a n c=>match a,n,c with
  | none,0,0=>some (.sl 0 0 [] 0 0 0 (some 0))
  | _,_,_=>none
 | .nilFunc=>some .nilf
 | _=>none
def ev (φ : Fr):Operand→Option (Prop×SV)
 | .tmp t=>match look φ t with
  | some (.gd b v)=>some (b=true,v)
  | some v=>some (True,v)
  | none=>none
 | .const v=>match ofV v with
  | some v=>some (True,v)
  | none=>none
 | .func f=>some (True,.fn f [])
 | .global _=>none
def Fits (β : Env)(h:HM)(φ : Fr)(a:Act):Prop:=∀k v,look φ k=some v→zc_ h v∧a.tmps.getD k undef=v.den β
theorem ofV_m1 (k:IntKind):ofV (.int k (-1))=some (.int k (-1)):=rfl
theorem ofV_min (k:IntKind):ofV (.int k (-9223372036854775808))=some (.int k (-9223372036854775808)):=rfl
theorem ofV_den {β : Env}{v:Value}{u:SV}(hn:β 0=(none,0))(h:ofV v=some u):u.den β = v:=by
 cases v<;>simp only[ofV]at h<;>try (cases h;done)
 case int k n=>cases n<;>(injection h with h;subst h;rfl)
 case bool=>injection h with h;subst h;rfl
 case string=>injection h with h;subst h;rfl
 case pointer a=>cases a<;>simp only at h<;>first |(cases h;done) |(injection h with h;subst h;rfl)
 case slice a n c=>
  split at h
  ·injection h with h;subst h;simp[SV.den,hn]
  ·cases h
 case nilFunc=>injection h with h;subst h;rfl
theorem ofV_stable {h:HM}(h0:h 0=.gone){v:Value}{u:SV}(hu:ofV v=some u):zc_ h u:=by
 have e0:(h 0).born=true:=by rw[h0];rfl
 cases v<;>simp only[ofV]at hu<;>try (cases hu;done)
 case int k n=>cases n<;>(injection hu with hu;subst hu;trivial)
 case bool=>injection hu with hu;subst hu;trivial
 case string=>injection hu with hu;subst hu;trivial
 case pointer a=>cases a<;>simp only at hu<;>first |(cases hu;done) |(injection hu with hu;subst hu;trivial)
 case slice a n c=>
  split at hu
  ·injection hu with hu;subst hu;exact⟨e0,e0⟩
  ·cases hu
 case nilFunc=>injection hu with hu;subst hu;trivial
theorem ev_spec {β : Env}{h:HM}{φ : Fr}{a:Act}(hF:Fits β h φ a)(hn:β 0=(none,0))(h0:h 0=.gone){x:Operand}{c:Prop}{v:SV}(he:ev φ x=some (c,v))(hc:c):zc_ h v∧a.eval x=v.den β:=by
 cases x with
 | tmp t=>
  simp only[ev]at he
  split at he
  ·rename_i b u hu
   simp only[Option.some.injEq,Prod.mk.injEq]at he
   obtain⟨rfl,rfl⟩:=he
   obtain⟨h1,h2⟩:=hF t _ hu
   simp only[zc_]at h1
   subst hc
   exact⟨h1 rfl,h2⟩
  ·rename_i u hg hu
   simp only[Option.some.injEq,Prod.mk.injEq]at he
   obtain⟨rfl,rfl⟩:=he
   exact hF t _ hu
  ·cases he
 | const w=>
  simp only[ev]at he
  split at he
  ·rename_i u hu
   simp only[Option.some.injEq,Prod.mk.injEq]at he
   obtain⟨rfl,rfl⟩:=he
   exact⟨ofV_stable h0 hu,(ofV_den hn hu).symm⟩
  ·cases he
 | func f=>
  simp only[ev,Option.some.injEq,Prod.mk.injEq]at he
  obtain⟨rfl,rfl⟩:=he
  exact⟨trivial,rfl⟩
 | global g=>simp only[ev]at he;cases he
inductive TK where
 | cell
 | bool
 | str
 | func
 | int (k:IntKind)
 /-- to variables of k cells -/
 | ptr (k:Nat)
 /-- of elements of type e, of k cells and b bytes each -/
 | slice (e:TypeId) (k b:Nat)
 /-- of n cells: each field's offset, its cells, and whether it is a struct or an array -/
 | struct (n:Nat) (os:List (Nat×Nat×Bool))
 | array (e:TypeId) (n k:Nat) (g:Bool)
def TK.size:TK→Nat
 | .struct n _=>n
 | .array _ n k _=>n*k
 | _=>1
def TK.agg:TK→Bool
 | .struct ..=>true
 | .array ..=>true
 | _=>false
def isAggD:TypeDesc→Bool
 | .struct _ | .array _ _=>true
 | _=>false
def HasSize (P:Program)(t:TypeId)(k:Nat)(g:Bool):Prop:=∃i d,P.info? t=some i∧i.size=k∧P.underlying t=some d∧isAggD d=g
def FitsK:TK→Program→TypeDesc→Prop
 | .cell,P,d=>isAggD d=false
 | .bool,P,d=>d=.bool
 | .str,P,d=>d=.string
 | .func,P,d=>∃a b c,d=.func a b c
 | .int k,P,d=>d=.int k
 | .ptr k,P,d=>∃e i,d=.pointer e∧P.info? e=some i∧i.size=k∧0 < k
 | .slice e k b,P,d=>∃i,d=.slice e∧P.info? e=some i∧i.size=k∧i.bytes=b∧0 < k
 | .struct n os,P,d=>∃fs,d=.struct fs∧os.length=fs.size∧∀(j o s:Nat) (g:Bool),os[j]? = some (o,s,g)→∃f:Field,fs[j]? = some f∧f.offset=o∧HasSize P f.type s g∧0 < s
 | .array e n k g,P,d=>d=.array n e∧HasSize P e k g∧0 < k
def kn:IntKind→Nat
 | .i8=>0 | .i16=>1 | .i32=>2 | .i64=>3 | .u8=>4 | .u16=>5 | .u32=>6 | .u64=>7
def keq (a b:IntKind):Bool:=Nat.beq (kn a) (kn b)
theorem keq_eq {a b:IntKind}(h:keq a b=true):a=b:=by
 have:=Nat.eq_of_beq_eq_true h
 cases a<;>cases b<;>first|rfl |(simp[kn]at this;done)
inductive ET where
 | int (k:IntKind)
 | bool
 | str
 | struct (fs:List ET)
 | arr (n k:Nat) (e:ET)
mutual
def ET.size:ET→Nat
 | .struct fs=>sizeET fs
 | .arr n k _=>n*k
 | _=>1
def sizeET:List ET→Nat
 | []=>0
 | e::l=>e.size+sizeET l
end
mutual
def ET.depth:ET→Nat
 | .struct fs=>depthET fs+1
 | .arr _ _ e=>e.depth+1
 | _=>1
def depthET:List ET→Nat
 | []=>0
 | e::l=>max e.depth (depthET l)
end
def ET.agg:ET→Bool
 | .struct _=>true
 | .arr ..=>true
 | _=>false
def x4_:SV→Option IntKind
 | .int k _=>some k
 | .nat k _=>some k
 | _=>none
mutual
def yc_:ET→SV→Prop
 | .int k,v=>x4_ v=some k
 | .bool,v=>match v with
  | .bool _=>True
  | _=>False
 | .str,v=>match v with
  | .str _=>True
  | _=>False
 | .struct fs,v=>match v with
  | .agg l=>z7_ fs l
  | _=>False
 | .arr n k e,v=>match v with
  | .arr n' k' f=>n=n'∧k=k'∧∀q,q < n→yc_ e (f q)
  | _=>False
def z7_:List ET→List SV→Prop
 | [],l=>match l with
  | []=>True
  | _::_=>False
 | e::es,l=>match l with
  | x::xs=>yc_ e x∧z7_ es xs
  | []=>False
end
def allB:Nat→(Nat→Bool)→Bool
 | 0,_=>true
 | n+1,p=>allB n p && p n
def numOf:SV→Int
 | .int _ n=>n
 | .nat _ n=>(n:Int)
 | _=>0
def ieq (a b:Int):Bool:=decide (a=b)
mutual
def eqB:ET→SV→SV→Bool
 | .int _,x,y=>ieq (numOf x) (numOf y)
 | .bool,x,y=>match x,y with
  | .bool a,.bool b=>a == b
  | _,_=>false
 | .str,x,y=>match x,y with
  | .str a,.str b=>a.toList == b.toList
  | _,_=>false
 | .struct fs,x,y=>match x,y with
  | .agg l,.agg m=>eqBL fs l m
  | _,_=>false
 | .arr n _ e,x,y=>match x,y with
  | .arr _ _ f,.arr _ _ g=>allB n fun q=>eqB e (f q) (g q)
  | _,_=>false
def eqBL:List ET→List SV→List SV→Bool
 | [],_,_=>true
 | e::es,l,m=>match l,m with
  | x::xs,y::ys=>eqB e x y && eqBL es xs ys
  | _,_=>false
end
def sizeIs (P:Program)(t:TypeId)(n:Nat):Bool:=match P.info? t,P.underlying t with
 | some i,some _=>Nat.beq i.size n
 | _,_=>false
mutual
def etOk (P:Program):ET→TypeId→Bool
 | .int k,t=>match P.underlying t with
  | some (.int k')=>keq k k'
  | _=>false
 | .bool,t=>match P.underlying t with
  | some .bool=>true
  | _=>false
 | .str,t=>match P.underlying t with
  | some .string=>true
  | _=>false
 | .struct fs,t=>match P.underlying t with
  | some (.struct F)=>!P.stoodInHeld t && etFs P fs F.toList 0
  | _=>false
 | .arr n k e,t=>match P.underlying t with
  | some (.array n' e')=>Nat.beq n n' && Nat.beq e.size k && sizeIs P e' k && etOk P e e'
  | _=>false
def etFs (P:Program):List ET→List Field→Nat→Bool
 | [],F,_=>F.isEmpty
 | e::es,F,o=>match F with
  | f :: fs => !(f.name == "_") && Nat.beq f.offset o && sizeIs P f.type e.size && etOk P e f.type && etFs P es fs (o + e.size)
  | []=>false
end
structure Tab where
 ty:Nat→Option TK
 zero:Nat→Option SV
 eq:Nat→Option ET
structure TabOk (P:Program) (T:Tab):Prop where
 ty:∀t K,T.ty t=some K→∃i d,P.info? t=some i∧i.size=K.size∧P.underlying t=some d∧FitsK K P d
 zero:∀t z,T.zero t=some z→z.plain=true∧(∀h:HM,h 0=.gone→zc_ h z)∧∃i,P.info? t=some i∧z.size=i.size∧∀β : Env,β 0=(none,0)→i.zero=some (z.den β)
 eq:∀t e,T.eq t=some e→etOk P e t=true∧e.agg=true∧Nat.blt e.depth 1000=true∧P.eqGuardType P.depth t=false
theorem FitsK.agg {K:TK}{P:Program}{d:TypeDesc}(h:FitsK K P d):isAggD d=K.agg:=by
 cases K with
 | cell=>exact h
 | bool=>subst h;rfl
 | str=>subst h;rfl
 | func=>obtain⟨_,_,_,rfl⟩:=h;rfl
 | int k=>subst h;rfl
 | ptr k=>obtain⟨_,_,rfl,_⟩:=h;rfl
 | slice e k b=>obtain⟨i,rfl,_⟩:=h;rfl
 | struct n os=>obtain⟨fs,rfl,_⟩:=h;rfl
 | array e n k g=>obtain⟨rfl,_⟩:=h;rfl
theorem run_isAgg {P:Program}{t:TypeId}{d:TypeDesc}(h:P.underlying t=some d)(w:World):(isAgg t).run P w=.ok (isAggD d) w:=by
 unfold isAgg
 simp only[Sem.run_bind,run_underlying h,Result.andThen_ok]
 cases d<;>rfl
theorem run_size {P:Program}{t:TypeId}{i:TypeInfo}(h:P.info? t=some i)(w:World):(sizeOf t).run P w=.ok i.size w:=by
 simp[sizeOf,typeInfo,h]
def inR:IntKind→Int→Prop
 | .i8,n=>-128≤n∧n≤127
 | .i16,n=>-32768≤n∧n≤32767
 | .i32,n=>-2147483648≤n∧n≤2147483647
 | .i64,n=>-9223372036854775808≤n∧n≤9223372036854775807
 | .u8,n=>0≤n∧n≤255
 | .u16,n=>0≤n∧n≤65535
 | .u32,n=>0≤n∧n≤4294967295
 | .u64,n=>0≤n∧n≤18446744073709551615
def inN:IntKind→Nat→Prop
 | .i8,n=>n≤127
 | .i16,n=>n≤32767
 | .i32,n=>n≤2147483647
 | .i64,n=>n≤9223372036854775807
 | .u8,n=>n≤255
 | .u16,n=>n≤65535
 | .u32,n=>n≤4294967295
 | .u64,n=>n≤18446744073709551615
theorem wrap_inR {k:IntKind}{n:Int}(h:inR k n):k.wrap n=n:=by
 cases k<;>simp only[inR]at h<;>simp only[IntKind.wrap,IntKind.bits,IntKind.signed,Bool.false_and,Bool.true_and]<;>simp<;>omega
theorem inN_inR {k:IntKind}{n:Nat}(h:inN k n):inR k (n:Int):=by
 cases k<;>simp only[inN]at h<;>simp only[inR]<;>omega
theorem wrap_inN {k:IntKind}{n:Nat}(h:inN k n):k.wrap (n:Int)=n:=wrap_inR (inN_inR h)
def arI:BinOp→Int→Int→Option Int
 | .add,a,b=>some (a+b)
 | .sub,a,b=>some (a - b)
 | .mul,a,b=>some (a*b)
 | _,_,_=>none
def arN:BinOp→Nat→Nat→Option Nat
 | .add,a,b=>some (a+b)
 | .mul,a,b=>some (a*b)
 | _,_,_=>none
def cmpI:BinOp→Int→Int→Option Bool
 | .eql,a,b=>some (decide (a=b))
 | .neq,a,b=>some (!decide (a=b))
 | .lss,a,b=>some (decide (a < b))
 | .leq,a,b=>some (decide (a≤b))
 | .gtr,a,b=>some (decide (b < a))
 | .geq,a,b=>some (decide (b≤a))
 | _,_,_=>none
def cmpN:BinOp→Nat→Nat→Option Bool
 | .eql,a,b=>some (decide (a=b))
 | .neq,a,b=>some (!decide (a=b))
 | .lss,a,b=>some (decide (a < b))
 | .leq,a,b=>some (decide (a≤b))
 | .gtr,a,b=>some (decide (b < a))
 | .geq,a,b=>some (decide (b≤a))
 | _,_,_=>none
theorem run_arI {P:Program}{w:World}{op:BinOp}{k:IntKind}{a b r:Int}{t:TypeId}(h:arI op a b=some r):(binOp op t (.int k a) (.int k b)).run P w=.ok (.int k (k.wrap r)) w:=by
 cases op<;>simp only[arI]at h<;>try (cases h;done)
 all_goals (injection h with h;subst h;simp[binOp,Op.intArith])
theorem run_arN {P:Program}{w:World}{op:BinOp}{k:IntKind}{a b r:Nat}{t:TypeId}(h:arN op a b=some r):(binOp op t (.int k (a:Int)) (.int k (b:Int))).run P w=.ok (.int k (k.wrap (r:Int))) w:=by
 cases op<;>simp only[arN]at h<;>try (cases h;done)
 all_goals (injection h with h;subst h;simp[binOp,Op.intArith])
theorem run_cmpI {P:Program}{w:World}{op:BinOp}{k:IntKind}{a b:Int}{r:Bool}{t:TypeId}(h:cmpI op a b=some r):(binOp op t (.int k a) (.int k b)).run P w=.ok (.bool r) w:=by
 cases op<;>simp only[cmpI]at h<;>try (cases h;done)
 all_goals (injection h with h;subst h;simp only[binOp,ne_eq,not_true_eq_false,if_false,Op.intCmp,Sem.run_pure];try rfl)
theorem run_cmpN {P:Program}{w:World}{op:BinOp}{k:IntKind}{a b:Nat}{r:Bool}{t:TypeId}(h:cmpN op a b=some r):(binOp op t (.int k (a:Int)) (.int k (b:Int))).run P w=.ok (.bool r) w:=by
 cases op<;>simp only[cmpN]at h<;>try (cases h;done)
 all_goals (injection h with h;subst h;simp only[binOp,ne_eq,not_true_eq_false,if_false,Op.intCmp,Sem.run_pure];(try simp only[Int.ofNat_lt,Int.ofNat_le,Int.natCast_inj]);try (first|rfl |(by_cases hab:a=b<;>simp[hab]<;>omega)))
theorem run_quo {P:Program}{w:World}{k:IntKind}{a b:Int}{t:TypeId}(h:b≠0):(binOp .quo t (.int k a) (.int k b)).run P w=.ok (.int k (k.wrap (a.tdiv b))) w:=by
 simp[binOp,Op.intDiv,h]
theorem run_rem {P:Program}{w:World}{k:IntKind}{a b:Int}{t:TypeId}(h:b≠0):(binOp .rem t (.int k a) (.int k b)).run P w=.ok (.int k (a.tmod b)) w:=by
 simp[binOp,Op.intDiv,h]
theorem run_shr {P:Program}{w:World}{k k':IntKind}{a b:Nat}{t:TypeId}:(binOp .shr t (.int k (a:Int)) (.int k' (b:Int))).run P w=.ok (.int k ((a / 2 ^ (min b k.bits):Nat):Int)) w:=by
 have:¬((b:Int) < 0):=by omega
 simp[binOp,Op.shift,this]
 exact Int.fdiv_eq_ediv_of_nonneg _ (by have:(0:Int) < 2 ^ min b k.bits:=Int.pow_pos (by omega);omega)
theorem run_shl {P:Program}{w:World}{k k':IntKind}{a b:Nat}{t:TypeId}(hb:b < k.bits)(hr:inN k (a*2 ^ b)):(binOp .shl t (.int k (a:Int)) (.int k' (b:Int))).run P w=.ok (.int k ((a*2 ^ b:Nat):Int)) w:=by
 have:¬((b:Int) < 0):=by omega
 have e:min b k.bits=b:=Nat.min_eq_left (by omega)
 have e2:(a:Int)*2 ^ b=((a*2 ^ b:Nat):Int):=by simp
 simp only[binOp,Op.shift,this,if_false,Int.toNat_natCast,e,Sem.run_pure,e2,wrap_inN hr]
theorem run_and {P:Program}{w:World}{k:IntKind}{a b:Nat}{t:TypeId}(ha:inN k a)(hb:inN k b):(binOp .and t (.int k (a:Int)) (.int k (b:Int))).run P w=.ok (.int k ((a &&& b:Nat):Int)) w:=by
 have hk:∀n,inN k n→n < 2 ^ k.bits:=by intro n hn;cases k<;>simp only[inN]at hn<;>simp only[IntKind.bits]<;>omega
 have e:((BitVec.ofInt k.bits (a:Int)) &&& (BitVec.ofInt k.bits (b:Int))).toNat=a &&& b:=by
  rw[BitVec.toNat_and]
  simp only[BitVec.toNat_ofInt]
  have h1:=hk a ha
  have h2:=hk b hb
  have e1:((a:Int) % ((2 ^ k.bits:Nat):Int)).toNat=a:=by rw[Int.emod_eq_of_lt (by omega) (by exact_mod_cast h1)];rfl
  have e2:((b:Int) % ((2 ^ k.bits:Nat):Int)).toNat=b:=by rw[Int.emod_eq_of_lt (by omega) (by exact_mod_cast h2)];rfl
  rw[e1,e2]
 have hle:a &&& b≤a:=Nat.and_le_left
 have hr:inN k (a &&& b):=by cases k<;>simp only[inN]at ha ⊢<;>omega
 simp only[binOp,ne_eq,not_true_eq_false,if_false,Op.intBits,Sem.run_pure,e,wrap_inN hr]
def binI (op:BinOp)(k:IntKind)(a b:Int):Option (Prop×SV):=
 match op with
 | .quo=>some (b≠0∧inR k (a.tdiv b),.int k (a.tdiv b))
 | .rem=>some (b≠0,.int k (a.tmod b))
 | _=>match arI op a b with
  | some r=>bif keq k .u64 then some (True,.int k (k.wrap r))else some (inR k r,.int k r)
  | none=>match cmpI op a b with
   | some r=>some (True,.bool r)
   | none=>none
def binN (op:BinOp)(k:IntKind)(a b:Nat):Option (Prop×SV):=
 match op with
 | .quo=>some (b≠0∧inN k (a / b),.nat k (a / b))
 | .rem=>some (b≠0,.nat k (a % b))
 | .shr=>some (True,.nat k (a / 2 ^ (min b k.bits)))
 | .and=>some (inN k a∧inN k b,.nat k (a &&& b))
 | .shl=>some (b < k.bits∧inN k (a*2 ^ b),.nat k (a*2 ^ b))
 | _=>match arN op a b with
  | some r=>some (inN k r,.nat k r)
  | none=>match cmpN op a b with
   | some r=>some (True,.bool r)
   | none=>binI op k a b
def binE (op:BinOp)(b:Bool):Option (Prop×SV):=match op with
 | .eql=>some (True,.bool b)
 | .neq=>some (True,.bool (!b))
 | _=>none
def bin (K:Option TK)(op:BinOp):SV→SV→Option (Prop×SV)
 | .nat k a,y=>match y with
  | .nat k' b=>bif keq k k' then binN op k a b else match op with
   | .shr=>some (True,.nat k (a / 2 ^ (min b k.bits)))
   | .shl=>some (b < k.bits∧inN k (a*2 ^ b),.nat k (a*2 ^ b))
   | _=>none
  | .int k' b=>bif keq k k' then binI op k a b else none
  | _=>none
 | .int k a,y=>match y with
  | .nat k' b=>bif keq k k' then binI op k a b else none
  | .int k' b=>bif keq k k' then binI op k a b else none
  | _=>none
 | .bool a,y=>match K,y with
  | some .bool,.bool b=>binE op (a == b)
  | _,_=>none
 | .str a,y=>match y with
  | .str b=>binE op (a.toList == b.toList)
  | _=>none
 | .nilp,y=>match K,y with
  | some (.ptr _),.nilp=>binE op true
  | some (.ptr _),.ptr _ _=>binE op false
  | _,_=>none
 | .ptr i pa,y=>match K,y with
  | some (.ptr _),.nilp=>binE op false
  | _,_=>none
 | .fn f caps,y=>match K,y with
  | some .func,.nilf=>binE op false
  | _,_=>none
 | .nilf,y=>match K,y with
  | some .func,.nilf=>binE op true
  | some .func,.fn _ _=>binE op false
  | _,_=>none
 | _,_=>none
theorem stable_int {h:HM}{k:IntKind}{n:Int}:zc_ h (.int k n):=trivial
theorem stable_nat {h:HM}{k:IntKind}{n:Nat}:zc_ h (.nat k n):=trivial
theorem stable_bool {h:HM}{b:Bool}:zc_ h (.bool b):=trivial
section
variable {P:Program} {w:World} {β : Env} {h:HM}
def binS (op:BinOp)(t:TypeId)(x y:Operand)(a b:Value):Sem Value:=do eqGuard op t x y a b;binOp op t a b
theorem binI_ok {op:BinOp}{k:IntKind}{a b:Int}{c:Prop}{v:SV}{t:TypeId}(hb:binI op k a b=some (c,v))(hc:c) :
  (binOp op t (.int k a) (.int k b)).run P w=.ok (v.den β) w∧zc_ h v:=by
 unfold binI at hb
 split at hb
 ·simp only[Option.some.injEq,Prod.mk.injEq]at hb
  obtain⟨rfl,rfl⟩:=hb
  exact⟨by rw[run_quo hc.1,wrap_inR hc.2];rfl,stable_int⟩
 ·simp only[Option.some.injEq,Prod.mk.injEq]at hb
  obtain⟨rfl,rfl⟩:=hb
  exact⟨by rw[run_rem hc];rfl,stable_int⟩
 ·split at hb
  ·rename_i r hr
   cases hk:keq k .u64
   ·rw[hk]at hb
    simp only[cond_false,Option.some.injEq,Prod.mk.injEq]at hb
    obtain⟨rfl,rfl⟩:=hb
    exact⟨by rw[run_arI hr,wrap_inR hc];rfl,stable_int⟩
   ·rw[hk]at hb
    simp only[cond_true,Option.some.injEq,Prod.mk.injEq]at hb
    obtain⟨rfl,rfl⟩:=hb
    exact⟨by rw[run_arI hr];rfl,stable_int⟩
  ·split at hb
   ·rename_i r hr
    simp only[Option.some.injEq,Prod.mk.injEq]at hb
    obtain⟨rfl,rfl⟩:=hb
    exact⟨by rw[run_cmpI hr];rfl,stable_bool⟩
   ·cases hb
theorem binN_ok {op:BinOp}{k:IntKind}{a b:Nat}{c:Prop}{v:SV}{t:TypeId}(hb:binN op k a b=some (c,v))(hc:c) :
  (binOp op t (.int k (a:Int)) (.int k (b:Int))).run P w=.ok (v.den β) w∧zc_ h v:=by
 unfold binN at hb
 split at hb
 ·simp only[Option.some.injEq,Prod.mk.injEq]at hb
  obtain⟨rfl,rfl⟩:=hb
  have h0:(b:Int)≠0:=by omega
  exact⟨by rw[run_quo h0,show (a:Int).tdiv (b:Int)=((a / b:Nat):Int) from(Int.ofNat_tdiv a b).symm,wrap_inN hc.2];rfl,stable_nat⟩
 ·simp only[Option.some.injEq,Prod.mk.injEq]at hb
  obtain⟨rfl,rfl⟩:=hb
  have h0:(b:Int)≠0:=by omega
  exact⟨by rw[run_rem h0,show (a:Int).tmod (b:Int)=((a % b:Nat):Int) from(Int.ofNat_tmod a b).symm];rfl,stable_nat⟩
 ·simp only[Option.some.injEq,Prod.mk.injEq]at hb
  obtain⟨rfl,rfl⟩:=hb
  exact⟨by rw[run_shr];rfl,stable_nat⟩
 ·simp only[Option.some.injEq,Prod.mk.injEq]at hb
  obtain⟨rfl,rfl⟩:=hb
  exact⟨by rw[run_and hc.1 hc.2];rfl,stable_nat⟩
 ·simp only[Option.some.injEq,Prod.mk.injEq]at hb
  obtain⟨rfl,rfl⟩:=hb
  exact⟨by rw[run_shl hc.1 hc.2];rfl,stable_nat⟩
 ·split at hb
  ·rename_i r hr
   simp only[Option.some.injEq,Prod.mk.injEq]at hb
   obtain⟨rfl,rfl⟩:=hb
   exact⟨by rw[run_arN hr,wrap_inN hc];rfl,stable_nat⟩
  ·split at hb
   ·rename_i r hr
    simp only[Option.some.injEq,Prod.mk.injEq]at hb
    obtain⟨rfl,rfl⟩:=hb
    exact⟨by rw[run_cmpN hr];rfl,stable_bool⟩
   ·exact binI_ok hb hc
theorem run_eqGuard_cells (op:BinOp)(t:TypeId)(x y:Operand)(a b:Value)(h1:∀cs,a≠.agg cs)(h2:a≠.nilIface):(eqGuard op t x y a b).run P w=.ok () w:=by
 unfold eqGuard
 cases op<;>simp<;>(cases a<;>cases b<;>simp_all)
theorem binE_ok {op:BinOp}{r:Bool}{c:Prop}{v:SV}{t:TypeId}{x y:Value}(hb:binE op r=some (c,v))(he:(Op.equal t x y).run P w=.ok r w)
  (hop:∀op,op=.eql∨op=.neq→binOp op t x y=(if op=.eql then(do pure (.bool (←Op.equal t x y)))else(do pure (.bool (!(←Op.equal t x y)))))) :
  (binOp op t x y).run P w=.ok (v.den β) w∧zc_ h v:=by
 unfold binE at hb
 split at hb
 ·simp only[Option.some.injEq,Prod.mk.injEq]at hb
  obtain⟨rfl,rfl⟩:=hb
  exact⟨by rw[hop _ (.inl rfl)];simp[he,SV.den],stable_bool⟩
 ·simp only[Option.some.injEq,Prod.mk.injEq]at hb
  obtain⟨rfl,rfl⟩:=hb
  exact⟨by rw[hop _ (.inr rfl)];simp[he,SV.den],stable_bool⟩
 ·cases hb
theorem eqIn_nil_ptr (d:Nat)(t:TypeId)(e:TypeId)(p:Option Addr)(hd:P.underlying t=some (.pointer e)):(Op.equalIn (d+1) t (.pointer none) (.pointer p)).run P w=.ok p.isNone w:=by
 cases p<;>simp[Op.equalIn,run_underlying hd]
theorem eqIn_fn_nil (d:Nat)(t:TypeId)(a b c)(f:Fn)(x y:Array Value)(hd:P.underlying t=some (.func a b c)):(Op.equalIn (d+1) t (.func f x y) .nilFunc).run P w=.ok false w:=by
 simp[Op.equalIn,run_underlying hd]
theorem eqIn_nil_fn (d:Nat)(t:TypeId)(a b c)(f:Fn)(x y:Array Value)(hd:P.underlying t=some (.func a b c)):(Op.equalIn (d+1) t .nilFunc (.func f x y)).run P w=.ok false w:=by
 simp[Op.equalIn,run_underlying hd]
theorem eqIn_nil_nil (d:Nat)(t:TypeId)(a b c)(hd:P.underlying t=some (.func a b c)):(Op.equalIn (d+1) t .nilFunc .nilFunc).run P w=.ok true w:=by
 simp[Op.equalIn,run_underlying hd]
theorem bin_ok {T:Tab}(hT:TabOk P T){op:BinOp}{x y:SV}{ox oy:Operand}{c:Prop}{v:SV}{t:TypeId}(hb:bin (T.ty t) op x y=some (c,v))(hc:c) :
  (binS op t ox oy (x.den β) (y.den β)).run P w=.ok (v.den β) w∧zc_ h v:=by
 have main:(binOp op t (x.den β) (y.den β)).run P w=.ok (v.den β) w∧zc_ h v:=by
  have ptr:∀n,T.ty t=some (.ptr n)→P.underlying t=some (.pointer (P.pointee t)):=fun n hK=>by
   obtain⟨i,d,hi,hs,hd,e,i',rfl,_⟩:=hT.ty t _ hK
   simp[Program.pointee,hd]
  have fnc:T.ty t=some .func→∃a b c,P.underlying t=some (.func a b c):=fun hK=>by
   obtain⟨i,d,hi,hs,hd,a,b,c,rfl⟩:=hT.ty t _ hK
   exact⟨a,b,c,hd⟩
  cases x<;>simp only[bin]at hb<;>try (cases hb;done)
  case int k a=>
   cases y<;>simp only at hb<;>try (cases hb;done)
   all_goals
    rename_i k' b
    cases hk:keq k k' with
    | false=>rw[hk]at hb;cases hb
    | true=>
     rw[hk]at hb
     have hk:=keq_eq hk
     subst hk
     exact binI_ok hb hc
  case nat k a=>
   cases y<;>simp only at hb<;>try (cases hb;done)
   ·rename_i k' b
    cases hk:keq k k' with
    | false=>rw[hk]at hb;cases hb
    | true=>
     rw[hk]at hb
     have hk:=keq_eq hk
     subst hk
     exact binI_ok hb hc
   ·rename_i k' b
    cases hk:keq k k' with
    | true=>
     rw[hk]at hb
     have hk:=keq_eq hk
     subst hk
     exact binN_ok hb hc
    | false=>
     rw[hk]at hb
     simp only[cond_false]at hb
     split at hb
     ·simp only[Option.some.injEq,Prod.mk.injEq]at hb
      obtain⟨rfl,rfl⟩:=hb
      exact⟨by show (binOp .shr t (.int k (a:Int)) (.int k' (b:Int))).run P w=_;rw[run_shr];rfl,stable_nat⟩
     ·simp only[Option.some.injEq,Prod.mk.injEq]at hb
      obtain⟨rfl,rfl⟩:=hb
      exact⟨by show (binOp .shl t (.int k (a:Int)) (.int k' (b:Int))).run P w=_;rw[run_shl hc.1 hc.2];rfl,stable_nat⟩
     ·cases hb
  case bool a=>
   split at hb
   ·rename_i b hK
    obtain⟨i,d,hi,hs,hd,hf⟩:=hT.ty t _ hK
    have hd2:d=.bool:=hf
    subst hd2
    exact binE_ok hb (run_equalIn_bool w 9999 t a b hd) (fun op hop=>by rcases hop with rfl|rfl<;>rfl)
   ·cases hb
  case str a=>
   cases y<;>simp only at hb<;>try (cases hb;done)
   unfold binE at hb
   split at hb<;>first |(cases hb;done)|skip
   all_goals
    simp only[Option.some.injEq,Prod.mk.injEq]at hb
    obtain⟨rfl,rfl⟩:=hb
    exact⟨rfl,stable_bool⟩
  case nilp=>
   split at hb
   ·rename_i n hK
    exact binE_ok hb (run_equal_pointer_nil w t none (ptr _ hK)) (fun op hop=>by rcases hop with rfl|rfl<;>rfl)
   ·rename_i n i pa hK
    exact binE_ok hb (eqIn_nil_ptr 9999 t _ _ (ptr _ hK)) (fun op hop=>by rcases hop with rfl|rfl<;>rfl)
   ·cases hb
  case ptr i pa=>
   split at hb
   ·rename_i n hK
    exact binE_ok hb (run_equal_pointer_nil w t _ (ptr _ hK)) (fun op hop=>by rcases hop with rfl|rfl<;>rfl)
   ·cases hb
  case fn f caps=>
   split at hb
   ·rename_i hK
    obtain⟨a,b,c,hd⟩:=fnc hK
    exact binE_ok hb (eqIn_fn_nil 9999 t a b c _ _ _ hd) (fun op hop=>by rcases hop with rfl|rfl<;>rfl)
   ·cases hb
  case nilf=>
   split at hb
   ·rename_i hK
    obtain⟨a,b,c,hd⟩:=fnc hK
    exact binE_ok hb (eqIn_nil_nil 9999 t a b c hd) (fun op hop=>by rcases hop with rfl|rfl<;>rfl)
   ·rename_i hK
    obtain⟨a,b,c,hd⟩:=fnc hK
    exact binE_ok hb (eqIn_nil_fn 9999 t a b c _ _ _ hd) (fun op hop=>by rcases hop with rfl|rfl<;>rfl)
   ·cases hb
 refine⟨?_,main.2⟩
 unfold binS
 rw[Sem.run_bind,run_eqGuard_cells]
 ·exact main.1
 ·cases x<;>simp only[bin]at hb<;>first |(cases hb;done) |(intro cs hcs;cases hcs;done)
 ·cases x<;>simp only[bin]at hb<;>first |(cases hb;done) |(intro hcs;cases hcs;done)
end
end Go.Proofs.YtjliakjbdcplcaaGreat.Vm
end

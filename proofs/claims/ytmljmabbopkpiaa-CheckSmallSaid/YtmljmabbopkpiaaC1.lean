import Derived.WalkKit
import Derived.WalkSpells
import Derived.WalkLawsBesides
import Derived.Lib.Hide
import Derived.Deep.QuietTactic
import Derived.BigQuiet
import Derived.Deep.Draws
import Derived.Deep.AppendLies
import Derived.Maps.AppendAt
import Derived.Test.YtmljmabbopkpiaaRows
import Derived.ProofKit
import Derived.OpenShut
import Derived.WideKeyArgs
section
namespace Go.Proofs.Ytmljmabbopkpiaa.Vm
theorem d6_ {P : Prop} (h:P:=by
 rename_i y hy
 split at hs
 ·rename_i y' hy'
  injection hs with hs;subst hs
  simp only[zb_]
  refine yx_.2 fun z hz=>?_
  rcases mem_set_of hz with rfl|hz
  ·exact zb_.of_setp (yx_.1 hv y (List.mem_of_getElem? hy)) hx hy'
  ·exact yx_.1 hv z hz
 ·cases hs):P:=h
theorem d8_ {P : Prop} (h:P:=by
 split at h
 ·split at h
  ·injection h with h;subst h;exact⟨fun n k f h=>(by cases h),rfl⟩
  ·cases h
 ·cases h):P:=h
theorem d9_ {P : Prop} (h:P:=by
 rename_i c' u he
 simp only[Option.some.injEq,Prod.mk.injEq]at ho
 obtain⟨rfl,rfl,rfl⟩:=ho
 obtain⟨h1,h2⟩:=X.ev he hc
 exact⟨h1,by simp[execOp,h2]⟩):P:=h
theorem d10_ {P : Prop} (h:P:=by
 have e1:(wrs h' [(m,HB.gone)] m).born=true:=by show (upd h' m _ m).born=true;rw[z1_];rfl
 have e2:(wrs h' [(m,HB.gone)] i).born=true:=by show (upd h' m _ i).born=true;rw[yp_ him];exact h1.2
 exact⟨e1,e2⟩):P:=h
theorem d11_ {P : Prop} (h:P:=by
 rw[hjm,hm0,hy4]
 cases A with
 | none=>rfl
 | some ad=>exact run_firstCells_some w k 0 ad n2 C [] (by simp) (fun j u hj=>by cases hj)):P:=h
theorem d12_ {P : Prop} (h:P:=by
 obtain⟨B,hB2⟩:∃B,a.eval x=.slice B 0 (max 0 (cp.getD (β z).2)):=⟨_,by rw[h2];rfl⟩
 rw[hy4]at hfirst
 have hz:zx_ β k 0 g=[]:=rfl
 rw[hz]at hfirst
 cases B with
 | none=>simp[execOp,resolve,invoke,builtin,hB2,hy4,Builtin.copy_,run_underlying hdd,Builtin.lenOf,x4_ hie,hes,hfirst,goInt,hmin]
 | some ad=>simp[execOp,resolve,invoke,builtin,hB2,hy4,Builtin.copy_,run_underlying hdd,Builtin.lenOf,x4_ hie,hes,hfirst,goInt,hmin,storeCells]):P:=h
theorem d13_ {P : Prop} (h:P:=by
 rw[look_push,hd1]at hv
 rw[hpe,put_get hsz hd2]
 by_cases h:o.dst=some t
 ·simp only[h,if_true,Option.some.injEq]at hv ⊢
  subst hv
  exact⟨k4,k5⟩
 ·simp only[h,if_false]at hv ⊢
  obtain⟨h1,h2⟩:=F t v hv
  exact⟨h1.more k2,by rw[h2];exact h1.den k1⟩):P:=h
theorem d14_ {P : Prop} (h:P:=by
 simp only[h,if_true,Option.some.injEq]at hv ⊢
 subst hv
 exact⟨k4,k5⟩):P:=h
theorem d15_ {P : Prop} (h:P:=by
 simp only[h,if_false]at hv ⊢
 obtain⟨h1,h2⟩:=F t v hv
 exact⟨h1.more k2,by rw[h2];exact h1.den k1⟩):P:=h
theorem d16_ {P : Prop} (h:P:=by
 obtain⟨k1,k2,k3,k4⟩:=k1 r hr
 refine⟨k1,fun⟨i,a',hm,ha,e⟩=>?_,(R.frame r k2 k3).trans k4⟩
 rcases R.own i a' hm ha with h'|h'
 ·omega
 ·exact k3 (by rw[←e];exact h')):P:=h
theorem d17_ {P : Prop} (h:P:=by
 simp only[idTo,List.all_eq_true]at hid
 have e:=Nat.eq_of_beq_eq_true (hid i (List.mem_range.2 hi))
 show β (l.getD i 0)=E i
 rw[e];exact hE i hi):P:=h
theorem d18_ {P : Prop} (h:P:=by
 intro β1 hv
 simp only[denL,z7_,z6_,z5_,zt_,zc_,den_insOf b1,den_insS]):P:=h
theorem d19_ {P : Prop} (h:P:=by
 intro β1 hv
 simp only[denL,z7_,z6_,z5_,zt_,zc_,zo_ b1,zo_ b2,zo_ b3]):P:=h
theorem d20_ {P : Prop} (h:P:=by
 intro x hx
 simp only[List.mem_cons,List.not_mem_nil,or_false]at hx
 subst hx
 ·exact y2_ t1 e1 g1):P:=h
theorem d21_ {P : Prop} (h:P:=by
 intro β1 hv
 simp only[Vd,zc_,and_true]at hv
 have z1:=hv
 simp only[denL,z7_,z6_,z5_,zt_,zc_,z1,d1]):P:=h
theorem d22_ {P : Prop} (h:P:=by
 intro x hx
 simp only[List.mem_cons,List.not_mem_nil,or_false]at hx
 rcases hx with rfl|rfl
 ·exact viewI64 t1 e1 g1
 ·exact viewI64 t2 e2 g2):P:=h
theorem d23_ {P : Prop} (h:P:=by
 intro x hx
 simp only[List.mem_cons,List.not_mem_nil,or_false]at hx
 subst hx
 ·exact viewI64 t1 e1 g1):P:=h
theorem d24_ {P : Prop} (h:P:=by
 refine zf_ (fn:=Try.f164) 1 4 0 rfl rfl rfl rfl rfl u6_ rfl fun w0 M E hro=>?_
 repeat' (first|refine Ctl.h ?_ |((with_reducible intro hif);first |(focus (cases hif;done)) |((try simp only[JH]at hif);try exact hy_)) |((with_reducible first|apply J22 zl_ za_|apply J23 fol zl_ za_|apply J24);(·rfl);(· exact k29_);(try kernel_rfl);try exact k9_)|fail)
 apply At.endsRet za_ (fn:=Try.f164) (rs:=[.tmp 2]) Anc.refl hro (lb_ rfl) rfl
 ·exact k28_
 ·exact k4_
 ·exact k5_
 ·rfl
 ·exact k51_
 ·exact k7_
 ·exact fun β=>rfl
 ·exact k51_):P:=h
theorem d25_ {P : Prop} (h:P:=by
 intro β1 hv
 simp only[Vd,zc_,and_true]at hv
 obtain⟨z1,z2⟩:=hv
 simp only[denL,z7_,z6_,z5_,zt_,zc_,z1,z2,d1,d2]):P:=h
theorem d26_ {P : Prop} (h:P:=by
 rw[show (if ((decide (a < 0)) !=(decide (b < 0)))=true then -D else D)=D by simp[h1,h2]]
 refine zf_ (fn:=Try.f131) 1 196 0 rfl rfl rfl rfl rfl u5_ rfl fun w0 M E hro=>?_
 repeat' (first|refine Ctl.h ?_ |((with_reducible intro hif);first |(focus (cases hif;done)) |((try simp only[JH]at hif);try exact hy_)) |((with_reducible first|apply J22 zk_ za_|apply J23 fol zk_ za_|apply J24);(·rfl);(· exact k68_);(try kernel_rfl);try exact k65_)|fail)
 apply At.endsRet za_ (fn:=Try.f131) (rs:=[.tmp 6,.tmp 7]) Anc.refl hro (lb_ rfl) rfl
 ·exact k28_
 ·exact k4_
 ·exact k5_
 ·rfl
 ·exact yh_
 ·exact k7_
 ·exact fun β=>rfl
 ·exact yh_):P:=h
theorem d27_ {P : Prop} (h:P:=by
 rw[show (if ((decide (a < 0)) !=(decide (b < 0)))=true then -D else D) = -D by simp[h1,h2]]
 refine zf_ (fn:=Try.f131) 1 196 0 rfl rfl rfl rfl rfl u5_ rfl fun w0 M E hro=>?_
 repeat' (first|refine Ctl.h ?_ |((with_reducible intro hif);first |(focus (cases hif;done)) |((try simp only[JH]at hif);try exact hy_)) |((with_reducible first|apply J22 zk_ za_|apply J23 fol zk_ za_|apply J24);(·rfl);(· exact k68_);(try kernel_rfl);try exact k65_)|fail)
 apply At.endsRet za_ (fn:=Try.f131) (rs:=[.tmp 6,.tmp 7]) Anc.refl hro (lb_ rfl) rfl
 ·exact k28_
 ·exact k4_
 ·exact k5_
 ·rfl
 ·exact yh_
 ·exact k7_
 ·exact fun β=>rfl
 ·exact yh_):P:=h
theorem d28_ {P : Prop} (h:P:=by
 have hu:updF F (k+1) f=none:=by unfold updF;rw[hJ];simp[hsm]
 with_reducible apply WF.split 6 2
 ·rfl
 with_reducible apply At.run zj_ za_
 ·rfl
 ·rfl
 ·rfl
 ·exact k79_
 ·exact k80_
 with_reducible apply At.yield (gr:=_)
 ·rfl
 ·rfl
 ·rfl
 ·rfl
 ·rfl
 ·rfl
 ·exact k79_
 ·exact k81_
 ·exact k79_
 ·exact k80_
 ·exact k79_
 ·exact k80_
 ·exact k81_
 ·exact hrec
 ·exact hcf
 ·rfl
 ·rfl
 ·rfl
 intro lb E2 next hE2 hnext
 repeat' (first|refine Ctl.h ?_ |((with_reducible intro hif);first |(focus (cases hif;done)) |((try simp only[JH]at hif);try exact hy_)) |((with_reducible first|apply J22 zj_ za_|apply J23 fol zj_ za_|apply J24);(·rfl);(· exact k92_);(try kernel_rfl);try exact k91_)|fail)
 with_reducible apply At.begins hrec
 ·rfl
 with_reducible refine At.code ?_
 repeat' (first|refine Ctl.h ?_ |((with_reducible intro hif);first |(focus (cases hif;done)) |((try simp only[JH]at hif);try exact hy_)) |((with_reducible first|apply J22 zj_ za_|apply J23 fol zj_ za_|apply J24);(·rfl);(· exact k92_);(try kernel_rfl);try exact k91_)|fail)
 with_reducible apply At.roundNormal
 ·exact k81_
 apply hnext
 with_reducible apply At.runEnd zj_ za_
 ·rfl
 ·rfl
 ·rfl
 ·exact k79_
 ·exact k80_
 repeat' (first|refine Ctl.h ?_ |((with_reducible intro hif);first |(focus (cases hif;done)) |((try simp only[JH]at hif);try exact hy_)) |((with_reducible first|apply J22 zj_ za_|apply J23 fol zj_ za_|apply J24);(·rfl);(· exact k92_);(try kernel_rfl);try exact k91_)|fail)
 refine At.join () ?_ ?_ ?_ rfl ?_ ?_ rfl
 ·exact fun _=>hu
 ·exact k8_
 ·exact k5_
 ·exact k6_
 ·exact k6_):P:=h
theorem d29_ {P : Prop} (h:P:=by
 have hu:updF F T f=none:=by unfold updF;rw[hJ];simp[hsm]
 with_reducible apply WF.split 3 0
 ·rfl
 with_reducible apply At.run zj_ za_
 ·rfl
 ·rfl
 ·rfl
 ·exact k83_
 ·exact k80_
 with_reducible apply At.yield (gr:=_)
 ·rfl
 ·rfl
 ·rfl
 ·rfl
 ·rfl
 ·rfl
 ·exact k83_
 ·exact k84_
 ·exact k83_
 ·exact k80_
 ·exact k83_
 ·exact k80_
 ·exact k84_
 ·exact hrec
 ·exact hcf
 ·rfl
 ·rfl
 ·rfl
 intro lb E2 next hE2 hnext
 repeat' (first|refine Ctl.h ?_ |((with_reducible intro hif);first |(focus (cases hif;done)) |((try simp only[JH]at hif);try exact hy_)) |((with_reducible first|apply J22 zj_ za_|apply J23 fol zj_ za_|apply J24);(·rfl);(· exact k93_);(try kernel_rfl);try exact k91_)|fail)
 with_reducible apply At.begins hrec
 ·rfl
 with_reducible refine At.code ?_
 repeat' (first|refine Ctl.h ?_ |((with_reducible intro hif);first |(focus (cases hif;done)) |((try simp only[JH]at hif);try exact hy_)) |((with_reducible first|apply J22 zj_ za_|apply J23 fol zj_ za_|apply J24);(·rfl);(· exact k93_);(try kernel_rfl);try exact k91_)|fail)
 with_reducible apply At.roundNormal
 ·exact k84_
 apply hnext
 with_reducible apply At.runEnd zj_ za_
 ·rfl
 ·rfl
 ·rfl
 ·exact k83_
 ·exact k80_
 repeat' (first|refine Ctl.h ?_ |((with_reducible intro hif);first |(focus (cases hif;done)) |((try simp only[JH]at hif);try exact hy_)) |((with_reducible first|apply J22 zj_ za_|apply J23 fol zj_ za_|apply J24);(·rfl);(· exact k93_);(try kernel_rfl);try exact k91_)|fail)
 have hs0:scanY F (xf_ x k (zs_ F k))=none:=by rw[zh];exact scanE_0 h1 (fun _=>by rw[hTn];exact hu)
 with_reducible apply At.itNormal .ready
 ·rfl
 ·rfl
 ·intro h;cases h
 apply haft
 intro w1 M1 D1 hA
 dsimp only
 repeat' (first|refine Ctl.h ?_ |((with_reducible intro hif);first |(focus (cases hif;done)) |((try simp only[JH]at hif);try exact hy_)) |((with_reducible first|apply J22 zj_ za_|apply J23 fol zj_ za_|apply J24);(·rfl);(· exact k89_);(try kernel_rfl);try exact k85_)|fail)
 refine At.nextB hA [0,1,2,3,4] (k+1) ?_ rfl rfl rfl ?_ rfl ?_ ?_ ?_ rfl
 ·exact k78_
 ·exact k53_
 ·exact k6_
 ·exact k48_
 ·exact k6_):P:=h
theorem d30_ {P : Prop} (h:P:=by
 simp only[h,decide_true,cond_true]
 rw[List.getD_eq_getElem?_getD,List.getD_eq_getElem?_getD,List.getElem?_append_left h]):P:=h
theorem d31_ {P : Prop} (h:P:=by
 have hq':q=S.length:=by rw[List.length_append]at hq;simp at hq;omega
 subst hq'
 simp only[h,decide_false,cond_false,Nat.sub_self,List.getD_cons_zero,hx]
 rw[List.getD_eq_getElem?_getD,List.getElem?_append_right (Nat.le_refl _),Nat.sub_self];rfl):P:=h
theorem d32_ {P : Prop} (h:P:=by
 obtain⟨x,hX⟩:∃x,xs.getD k ⟨0,0,0,0,0⟩=x:=⟨_,rfl⟩
 have hR:=right_at hx hc hkl
 rw[hX]at hR
 have hok:=hR.ok
 have ha8:=hR.a
 have hb8:=hR.b
 have hc8:=hR.c
 by_cases he:y5_ c p l x (zs_ F k)=0
 ·have e:yw_ xs F c p l (k+1)=Dk:=by unfold yw_;rw[hD,hX,if_neg (fun h=>h he),List.append_nil]
  repeat' (first|refine Ctl.h ?_ |((with_reducible intro hif);first |(focus (cases hif;done)) |((try simp only[JH]at hif);try exact hy_)) |((with_reducible first|apply J22 zi_ za_|apply J23 fol zi_ za_|apply J24);(·rfl);(· exact k119_);(try kernel_rfl);try exact k85_)|fail)
  have e4:Less (.own 79 (nilOr Dk 10) true) (.own 79 (nilOr (yw_ xs F c p l (k+1)) 10) true):=by rw[e];exact .same _
  have e5:Less (.own 3 (.arr Dk.length 1 (zw_ Dk)) false) (.own 3 (.arr (yw_ xs F c p l (k+1)).length 1 (zw_ (yw_ xs F c p l (k+1)))) false):=by rw[e];exact .same _
  refine At.next (k+1) ?_ ?_ ?_ rfl ?_ ?_ rfl
  ·omega
  ·exact k8_
  ·exact k5_
  ·exact x5_
  ·exact x5_
 ·have e:yw_ xs F c p l (k+1)=Dk++[(k:Int)]:=by unfold yw_;rw[hD,hX,if_pos he]
  have ht:y5_ c p l x (zs_ F k)=0↔False:=⟨he,False.elim⟩
  cases hDe:Dk.isEmpty
  ·rw[nilOr_f hDe]
   repeat' (first|refine Ctl.h ?_ |((with_reducible intro hif);first |(focus (cases hif;done)) |((try simp only[JH]at hif);try exact hy_)) |((with_reducible first|apply J22 zi_ za_|apply J23 fol zi_ za_|apply J24);(·rfl);(· exact k119_);(try kernel_rfl);try exact k85_)|fail)
   with_reducible apply WF.split 6 2
   ·rfl
   with_reducible apply At.run zi_ za_
   ·rfl
   ·rfl
   ·rfl
   ·exact k111_
   ·exact k112_
   with_reducible apply At.yield (gr:=_)
   ·rfl
   ·rfl
   ·rfl
   ·rfl
   ·rfl
   ·rfl
   ·exact k111_
   ·exact k113_
   ·exact k111_
   ·exact k112_
   ·exact k111_
   ·exact k112_
   ·exact k113_
   ·exact hrec
   ·exact hcf
   ·rfl
   ·rfl
   ·rfl
   intro lb E2 next hE2 hnext
   repeat' (first|refine Ctl.h ?_ |((with_reducible intro hif);first |(focus (cases hif;done)) |((try simp only[JH]at hif);try exact hy_)) |((with_reducible first|apply J22 zi_ za_|apply J23 fol zi_ za_|apply J24);(·rfl);(· exact k120_);(try kernel_rfl);try exact k85_)|fail)
   with_reducible apply At.begins hrec
   ·rfl
   with_reducible refine At.code ?_
   repeat' (first|refine Ctl.h ?_ |((with_reducible intro hif);first |(focus (cases hif;done)) |((try simp only[JH]at hif);try exact hy_)) |((with_reducible first|apply J22 zi_ za_|apply J23 fol zi_ za_|apply J24);(·rfl);(· exact k121_);(try kernel_rfl);try exact k85_)|fail)
   with_reducible apply At.roundNormal
   ·exact k113_
   apply hnext
   with_reducible apply At.runEnd zi_ za_
   ·rfl
   ·rfl
   ·rfl
   ·exact k111_
   ·exact k112_
   repeat' (first|refine Ctl.h ?_ |((with_reducible intro hif);first |(focus (cases hif;done)) |((try simp only[JH]at hif);try exact hy_)) |((with_reducible first|apply J22 zi_ za_|apply J23 fol zi_ za_|apply J24);(·rfl);(· exact k120_);(try kernel_rfl);try exact k85_)|fail)
   have hA1:∀g:Nat→SV,(∀q,q < Dk.length+1→g q=SV.ite (decide (q < Dk.length)) (.int .i64 (Dk.getD q 0)) ([SV.nat .i64 k].getD (q - Dk.length) (.nat .i64 0)))→∀σ,Less (.own 3 (.arr (Dk.length+1) 1 g) false) ((HB.own 3 (.arr (Dk++[(k:Int)]).length 1 (zw_ (Dk++[(k:Int)]))) false).ren σ):=fun g hg σ=>less_app Dk k fun q hq β=>by
    rw[hg q hq,x1_]
    by_cases h:q < Dk.length
    ·simp only[h,decide_true,cond_true,List.getD_eq_getElem?_getD,List.getElem?_append_left h];rfl
    ·obtain rfl:q=Dk.length:=by omega
     simp only[Nat.lt_irrefl,decide_false,cond_false,Nat.sub_self,List.getD_eq_getElem?_getD,List.getElem?_append_right (Nat.le_refl _),List.getElem?_cons_zero,Option.getD_some];rfl
   refine At.nextPick [0,1,2,3,4,5,6,7,8,9,13] (k+1) ?_ rfl rfl rfl ?_ rfl ?_ ?_ ?_ rfl
   ·omega
   ·exact k114_
   ·exact x5_
   ·exact k48_
   ·exact x5_
  ·rw[nilOr_t hDe]
   have hDz:Dk=[]:=by simpa using hDe
   subst hDz
   repeat' (first|refine Ctl.h ?_ |((with_reducible intro hif);first |(focus (cases hif;done)) |((try simp only[JH]at hif);try exact hy_)) |((with_reducible first|apply J22 zi_ za_|apply J23 fol zi_ za_|apply J24);(·rfl);(· exact k119_);(try kernel_rfl);try exact k85_)|fail)
   with_reducible apply WF.split 6 2
   ·rfl
   with_reducible apply At.run zi_ za_
   ·rfl
   ·rfl
   ·rfl
   ·exact k111_
   ·exact k112_
   with_reducible apply At.yield (gr:=_)
   ·rfl
   ·rfl
   ·rfl
   ·rfl
   ·rfl
   ·rfl
   ·exact k111_
   ·exact k113_
   ·exact k111_
   ·exact k112_
   ·exact k111_
   ·exact k112_
   ·exact k113_
   ·exact hrec
   ·exact hcf
   ·rfl
   ·rfl
   ·rfl
   intro lb E2 next hE2 hnext
   repeat' (first|refine Ctl.h ?_ |((with_reducible intro hif);first |(focus (cases hif;done)) |((try simp only[JH]at hif);try exact hy_)) |((with_reducible first|apply J22 zi_ za_|apply J23 fol zi_ za_|apply J24);(·rfl);(· exact k120_);(try kernel_rfl);try exact k85_)|fail)
   with_reducible apply At.begins hrec
   ·rfl
   with_reducible refine At.code ?_
   repeat' (first|refine Ctl.h ?_ |((with_reducible intro hif);first |(focus (cases hif;done)) |((try simp only[JH]at hif);try exact hy_)) |((with_reducible first|apply J22 zi_ za_|apply J23 fol zi_ za_|apply J24);(·rfl);(· exact k121_);(try kernel_rfl);try exact k85_)|fail)
   with_reducible apply At.roundNormal
   ·exact k113_
   apply hnext
   with_reducible apply At.runEnd zi_ za_
   ·rfl
   ·rfl
   ·rfl
   ·exact k111_
   ·exact k112_
   repeat' (first|refine Ctl.h ?_ |((with_reducible intro hif);first |(focus (cases hif;done)) |((try simp only[JH]at hif);try exact hy_)) |((with_reducible first|apply J22 zi_ za_|apply J23 fol zi_ za_|apply J24);(·rfl);(· exact k120_);(try kernel_rfl);try exact k85_)|fail)
   have hA1:∀g:Nat→SV,(∀q,q < 0+1→g q=[SV.nat .i64 k].getD q (.nat .i64 0))→∀σ,Less (.own 3 (.arr (0+1) 1 g) false) ((HB.own 3 (.arr ([]++[(k:Int)]).length 1 (zw_ ([]++[(k:Int)]))) false).ren σ):=fun g hg σ=>less_app [] k fun q hq β=>by
    rw[hg q hq]
    obtain rfl:q=0:=by simp at hq;omega
    rfl
   refine At.nextPick [0,1,2,3,4,5,6,7,8,9,13] (k+1) ?_ rfl rfl rfl ?_ rfl ?_ ?_ ?_ rfl
   ·omega
   ·exact k114_
   ·exact x5_
   ·exact k48_
   ·exact x5_):P:=h
theorem d38_ {P : Prop} (h:P:=by
 intro β1 hv
 simp only[Vd,zc_,and_true]at hv
 have z1:=hv
 simp only[denL,z7_,z6_,z5_,zt_,zc_,z1,d1,zo_ b2,zo_ b3,zo_ b4,zo_ b5]):P:=h
theorem d39_ {P : Prop} (h:P:=by
 intro β1 hv
 simp only[Vd,zc_,and_true]at hv
 have z1:=hv
 simp only[denL,z7_,z6_,z5_,zt_,zc_,z1,d1,zo_ b2,zo_ b3,zo_ b4]):P:=h
end Go.Proofs.Ytmljmabbopkpiaa.Vm
end
section
namespace Go.Proofs.Ytmljmabbopkpiaa.Vm
theorem d3_ {P : Prop} (h:P:=by
 have l1:=z8_ X
 have l2:=z8_ Y
 by_cases h0:b=0
 ·refine zf_ (fn:=Try.f131) 1 196 0 rfl rfl rfl rfl rfl u5_ rfl fun w0 M E hro=>?_
  repeat' (first|refine Ctl.h ?_ |((with_reducible intro hif);first |(focus (cases hif;done)) |((try simp only[JH]at hif);try exact hy_)) |((with_reducible first|apply J22 zk_ za_|apply J23 fol zk_ za_|apply J24);(·rfl);(· exact k66_);(try kernel_rfl);try exact k65_)|fail)
  apply At.endsRet za_ (fn:=Try.f131) (rs:=[.tmp 6,.tmp 7]) Anc.refl hro (lb_ rfl) rfl
  ·exact k28_
  ·exact k4_
  ·exact k5_
  ·rfl
  ·exact yh_
  ·exact k7_
  ·exact fun β=>rfl
  ·exact yh_
 ·refine zf_ (fn:=Try.f131) 1 196 0 rfl rfl rfl rfl rfl u5_ rfl fun w0 M E hro=>?_
  repeat' (first|refine Ctl.h ?_ |((with_reducible intro hif);first |(focus (cases hif;done)) |((try simp only[JH]at hif);try exact hy_)) |((with_reducible first|apply J22 zk_ za_|apply J23 fol zk_ za_|apply J24);(·rfl);(· exact k67_);(try kernel_rfl);try exact k65_)|fail)
  apply At.endsRet za_ (fn:=Try.f131) (rs:=[.tmp 6,.tmp 7]) Anc.refl hro (lb_ rfl) rfl
  ·exact k28_
  ·exact k4_
  ·exact k5_
  ·rfl
  ·exact yh_
  ·exact k7_
  ·exact fun β=>rfl
  ·exact yh_):P:=h
theorem d4_ {P : Prop} (h:P:=by
 have l1:=z8_ X
 have l2:=z8_ Y
 by_cases h0:b=0
 ·refine zf_ (fn:=Try.f131) 1 196 0 rfl rfl rfl rfl rfl u5_ rfl fun w0 M E hro=>?_
  repeat' (first|refine Ctl.h ?_ |((with_reducible intro hif);first |(focus (cases hif;done)) |((try simp only[JH]at hif);try exact hy_)) |((with_reducible first|apply J22 zk_ za_|apply J23 fol zk_ za_|apply J24);(·rfl);(· exact k70_);(try kernel_rfl);try exact k65_)|fail)
  apply At.endsRet za_ (fn:=Try.f131) (rs:=[.tmp 6,.tmp 7]) Anc.refl hro (lb_ rfl) rfl
  ·exact k28_
  ·exact k4_
  ·exact k5_
  ·rfl
  ·exact yh_
  ·exact k7_
  ·exact fun β=>rfl
  ·exact yh_
 ·refine zf_ (fn:=Try.f131) 1 196 0 rfl rfl rfl rfl rfl u5_ rfl fun w0 M E hro=>?_
  repeat' (first|refine Ctl.h ?_ |((with_reducible intro hif);first |(focus (cases hif;done)) |((try simp only[JH]at hif);try exact hy_)) |((with_reducible first|apply J22 zk_ za_|apply J23 fol zk_ za_|apply J24);(·rfl);(· exact k71_);(try kernel_rfl);try exact k65_)|fail)
  apply At.endsRet za_ (fn:=Try.f131) (rs:=[.tmp 6,.tmp 7]) Anc.refl hro (lb_ rfl) rfl
  ·exact k28_
  ·exact k4_
  ·exact k5_
  ·rfl
  ·exact yh_
  ·exact k7_
  ·exact fun β=>rfl
  ·exact yh_):P:=h
theorem d5_ {P : Prop} (h:P:=by
 have l1:=z8_ X
 have l2:=z8_ Y
 by_cases h0:b=0
 ·by_cases h1:a < b
  ·rw[if_pos h1]
   refine zf_ (fn:=Try.f131) 1 196 0 rfl rfl rfl rfl rfl u5_ rfl fun w0 M E hro=>?_
   repeat' (first|refine Ctl.h ?_ |((with_reducible intro hif);first |(focus (cases hif;done)) |((try simp only[JH]at hif);try exact hy_)) |((with_reducible first|apply J22 zk_ za_|apply J23 fol zk_ za_|apply J24);(·rfl);(· exact k74_);(try kernel_rfl);try exact k65_)|fail)
   apply At.endsRet za_ (fn:=Try.f131) (rs:=[.tmp 6,.tmp 7]) Anc.refl hro (lb_ rfl) rfl
   ·exact k28_
   ·exact k4_
   ·exact k5_
   ·rfl
   ·exact yh_
   ·exact k7_
   ·exact fun β=>rfl
   ·exact yh_
  ·rw[if_neg h1]
   refine zf_ (fn:=Try.f131) 1 196 0 rfl rfl rfl rfl rfl u5_ rfl fun w0 M E hro=>?_
   repeat' (first|refine Ctl.h ?_ |((with_reducible intro hif);first |(focus (cases hif;done)) |((try simp only[JH]at hif);try exact hy_)) |((with_reducible first|apply J22 zk_ za_|apply J23 fol zk_ za_|apply J24);(·rfl);(· exact k74_);(try kernel_rfl);try exact k65_)|fail)
   apply At.endsRet za_ (fn:=Try.f131) (rs:=[.tmp 6,.tmp 7]) Anc.refl hro (lb_ rfl) rfl
   ·exact k28_
   ·exact k4_
   ·exact k5_
   ·rfl
   ·exact yh_
   ·exact k7_
   ·exact fun β=>rfl
   ·exact yh_
 ·by_cases h1:a < b
  ·rw[if_pos h1]
   refine zf_ (fn:=Try.f131) 1 196 0 rfl rfl rfl rfl rfl u5_ rfl fun w0 M E hro=>?_
   repeat' (first|refine Ctl.h ?_ |((with_reducible intro hif);first |(focus (cases hif;done)) |((try simp only[JH]at hif);try exact hy_)) |((with_reducible first|apply J22 zk_ za_|apply J23 fol zk_ za_|apply J24);(·rfl);(· exact k69_);(try kernel_rfl);try exact k65_)|fail)
   apply At.endsRet za_ (fn:=Try.f131) (rs:=[.tmp 6,.tmp 7]) Anc.refl hro (lb_ rfl) rfl
   ·exact k28_
   ·exact k4_
   ·exact k5_
   ·rfl
   ·exact yh_
   ·exact k7_
   ·exact fun β=>rfl
   ·exact yh_
  ·rw[if_neg h1]
   refine zf_ (fn:=Try.f131) 1 196 0 rfl rfl rfl rfl rfl u5_ rfl fun w0 M E hro=>?_
   repeat' (first|refine Ctl.h ?_ |((with_reducible intro hif);first |(focus (cases hif;done)) |((try simp only[JH]at hif);try exact hy_)) |((with_reducible first|apply J22 zk_ za_|apply J23 fol zk_ za_|apply J24);(·rfl);(· exact k69_);(try kernel_rfl);try exact k65_)|fail)
   apply At.endsRet za_ (fn:=Try.f131) (rs:=[.tmp 6,.tmp 7]) Anc.refl hro (lb_ rfl) rfl
   ·exact k28_
   ·exact k4_
   ·exact k5_
   ·rfl
   ·exact yh_
   ·exact k7_
   ·exact fun β=>rfl
   ·exact yh_):P:=h
end Go.Proofs.Ytmljmabbopkpiaa.Vm
end
section
namespace Go.Proofs.Ytmljmabbopkpiaa.Vm
theorem lb_ {m n:Nat}(h:Nat.ble m n=true):m≤n:=Nat.le_of_ble_eq_true h
end Go.Proofs.Ytmljmabbopkpiaa.Vm
end
set_option linter.unusedSimpArgs false
set_option linter.unusedVariables false
section
namespace Go.Proofs.Ytmljmabbopkpiaa.Vm
theorem u1_ {P:Prop}(h:P:=by first|exact⟨_,rfl,fun β _ _=>rfl⟩|exact⟨_,rfl,fun β _ _=>by rw[carry_zero1]⟩):P:=h
theorem u2_ {P:Prop}(h:P:=by(repeat' (first|exact trivial|exact rfl|assumption|apply zb_.ite|apply And.intro|intro _ |(simp only[zb_,zh_,zw_,prS,insS,sndsS,sndS];done)))):P:=h
theorem u3_ {P:Prop}(h:P:=by simp only[zh_,zb_,hp];simp[HB.born]):P:=h
theorem u4_ {P:Prop}(h:P:=by simp only[zh_,zb_,hp,zw_,prS,insS,sndsS,sndS];simp[HB.born]):P:=h
theorem u5_ {P:Prop}(h:P:=by simp only[zh_,zb_,hp,zw_,bO,HB.stable];simp[HB.born]):P:=h
theorem u6_ {P:Prop}(h:P:=by simp only[zh_,zb_,hp,zw_,bO,upS,HB.stable];simp[HB.born]):P:=h
theorem u7_ {P:Prop}(h:P:=by simp only[zh_,zb_,hp,zw_,prS,insS,sndsS,sndS,kS,kaS,ftS,y0_];simp[HB.born]):P:=h
theorem u8_ {P:Prop}(h:P:=by simp only[zh_,zb_,hp,zw_,prS,insS,sndsS,sndS,kS,kaS,ftS,y0_,prT];simp[HB.born]):P:=h
theorem k1_ {P:Prop}(h:P:=by rw[List.length_append,clL_length,ho,hl];rfl):P:=h
theorem k2_ {P:Prop}(h:P:=by rw[yp_ hj];exact HB.stable_more (R.st j) born):P:=h
theorem k3_ {P:Prop}(h:P:=by simp only[push_cast,↓JP,Nat.reduceAdd,Nat.reduceEqDiff,Nat.reduceLT,Nat.reduceMul,Nat.reduceLeDiff,reduceCtorEq,reduceIte,↓JK,↓JF,resV,resV1];rfl):P:=h
theorem k4_ {P:Prop}(h:P:=by(first|trivial |(simp only[and_self];done))):P:=h
theorem k5_ {P:Prop}(h:P:=by(repeat' (first|exact trivial|exact .same _|exact .dead _|exact .gone rfl|exact .loose|assumption|exact .arr (by assumption)|apply And.intro))):P:=h
theorem k6_ {P:Prop}(h:P:=by(repeat' (first|exact trivial|exact rfl|assumption|apply zb_.ite|apply And.intro|intro _ |(simp only[zb_,zh_,zw_,prS,insS,sndsS,sndS,kS,kaS,ftS,y0_];done)))):P:=h
theorem k7_ {P:Prop}(h:P:=by(repeat' (first|exact trivial|exact .inl rfl|exact .inr rfl|exact rfl|apply And.intro))):P:=h
theorem k8_ {P:Prop}(h:P:=by((repeat' (first|exact trivial|apply And.intro))<;>(first|rfl |(simp only[look,cond_true,cond_false];done)))):P:=h
theorem k9_ {P:Prop}(h:P:=by(first|exact True.intro |((try simp only[JS,implies_true,forall_const,yc_,yf_,kndOf]);(repeat' (first|assumption|exact True.intro|omega|apply And.intro));done))):P:=h
theorem xx_ {P:Prop}(h:P:=by(first|exact True.intro |((try simp only[JS,implies_true,forall_const,yc_,yf_,kndOf,inN,inR]);(repeat' (first|assumption|exact True.intro|omega|apply And.intro));done))):P:=h
theorem k11_ {P:Prop}(h:P:=by(simp only[push_cast,↓JP,Nat.reduceAdd,Nat.reduceEqDiff,Nat.reduceLT,Nat.reduceMul,Nat.reduceLeDiff,reduceCtorEq,reduceIte,↓JK,↓JF,cRes,sDiv,sApply,h3,h4,h32,hdv,hb1,hc1,↓kn_eqZ,inN,inR];rfl)):P:=h
theorem k12_ {P:Prop}(h:P:=by(simp only[push_cast,↓JP,Nat.reduceAdd,Nat.reduceEqDiff,Nat.reduceLT,Nat.reduceMul,Nat.reduceLeDiff,reduceCtorEq,reduceIte,↓JK,↓JF,cRes,sDiv,sApply,h3,h4,h32,hdv,hb1,hc1,↓kn_eqZ,inN,inR,hn0];rfl)):P:=h
theorem k13_ {P:Prop}(h:P:=by(simp only[push_cast,↓JP,Nat.reduceAdd,Nat.reduceEqDiff,Nat.reduceLT,Nat.reduceMul,Nat.reduceLeDiff,reduceCtorEq,reduceIte,↓JK,↓JF];rfl)):P:=h
theorem k14_ {P:Prop}(h:P:=by(simp only[push_cast,↓JP,Nat.reduceAdd,Nat.reduceEqDiff,Nat.reduceLT,Nat.reduceMul,Nat.reduceLeDiff,reduceCtorEq,reduceIte,↓JK,↓JF,inN,inR,h0,h1,h2,h3,h4,h5];rfl)):P:=h
theorem k15_ {P:Prop}(h:P:=by(simp only[push_cast,↓JP,Nat.reduceAdd,Nat.reduceEqDiff,Nat.reduceLT,Nat.reduceMul,Nat.reduceLeDiff,reduceCtorEq,reduceIte,↓JK,↓JF,inN,inR,h0,h1,h2,h3,h4];rfl)):P:=h
theorem k16_ {P:Prop}(h:P:=by(simp only[push_cast,↓JP,Nat.reduceAdd,Nat.reduceEqDiff,Nat.reduceLT,Nat.reduceMul,Nat.reduceLeDiff,reduceCtorEq,reduceIte,↓JK,↓JF,inN,inR,h0,h1,h2,h3];rfl)):P:=h
theorem k17_ {P:Prop}(h:P:=by(simp only[push_cast,↓JP,Nat.reduceAdd,Nat.reduceEqDiff,Nat.reduceLT,Nat.reduceMul,Nat.reduceLeDiff,reduceCtorEq,reduceIte,↓JK,↓JF,inN,inR,h0,h1,h2];rfl)):P:=h
theorem k18_ {P:Prop}(h:P:=by(simp only[push_cast,↓JP,Nat.reduceAdd,Nat.reduceEqDiff,Nat.reduceLT,Nat.reduceMul,Nat.reduceLeDiff,reduceCtorEq,reduceIte,↓JK,↓JF,inN,inR,h0,h1];rfl)):P:=h
theorem k19_ {P:Prop}(h:P:=by(simp only[push_cast,↓JP,Nat.reduceAdd,Nat.reduceEqDiff,Nat.reduceLT,Nat.reduceMul,Nat.reduceLeDiff,reduceCtorEq,reduceIte,↓JK,↓JF,inN,inR,h0];rfl)):P:=h
theorem k20_ {P:Prop}(h:P:=by(first|exact True.intro |((try simp only[JS,implies_true,forall_const,yc_,yf_,kndOf]);(first|exact⟨fun q _=>rfl,hx,hl⟩ |(repeat' (first|assumption|exact True.intro|omega|apply And.intro)));done))):P:=h
theorem k21_ {P:Prop}(h:P:=by(simp only[push_cast,↓JP,Nat.reduceAdd,Nat.reduceEqDiff,Nat.reduceLT,Nat.reduceMul,Nat.reduceLeDiff,reduceCtorEq,reduceIte,↓JK,↓JF,cFits,sCheck,sRight17,y9_,yt_,ys_,h1,h2];rfl)):P:=h
theorem k22_ {P:Prop}(h:P:=by(simp only[push_cast,↓JP,Nat.reduceAdd,Nat.reduceEqDiff,Nat.reduceLT,Nat.reduceMul,Nat.reduceLeDiff,reduceCtorEq,reduceIte,↓JK,↓JF,cWhy,sDiv,↓kn_eqZ,inN,inR,hre,h5,q1,q2,q3,q4];rfl)):P:=h
theorem k23_ {P:Prop}(h:P:=by(simp only[push_cast,↓JP,Nat.reduceAdd,Nat.reduceEqDiff,Nat.reduceLT,Nat.reduceMul,Nat.reduceLeDiff,reduceCtorEq,reduceIte,↓JK,↓JF,cWhy,sDiv,↓kn_eqZ,inN,inR,hre,h6,q1,q2,q3,q4];rfl)):P:=h
theorem k24_ {P:Prop}(h:P:=by(simp only[push_cast,↓JP,Nat.reduceAdd,Nat.reduceEqDiff,Nat.reduceLT,Nat.reduceMul,Nat.reduceLeDiff,reduceCtorEq,reduceIte,↓JK,↓JF,cWhy,sDiv,↓kn_eqZ,inN,inR,hre,h8,hd,q1,q2,q3];rfl)):P:=h
theorem k25_ {P:Prop}(h:P:=by(simp only[push_cast,↓JP,Nat.reduceAdd,Nat.reduceEqDiff,Nat.reduceLT,Nat.reduceMul,Nat.reduceLeDiff,reduceCtorEq,reduceIte,↓JK,↓JF,cWhy,sDiv,↓kn_eqZ,inN,inR,hre,h7,hd,q2,q3];rfl)):P:=h
theorem k26_ {P:Prop}(h:P:=by(simp only[push_cast,↓JP,Nat.reduceAdd,Nat.reduceEqDiff,Nat.reduceLT,Nat.reduceMul,Nat.reduceLeDiff,reduceCtorEq,reduceIte,↓JK,↓JF,cWhy,sDiv,↓kn_eqZ,inN,inR,hre,h2,h5,h6,h8,h7,hd,q1,q2];rfl)):P:=h
theorem k27_ {P:Prop}(h:P:=by(repeat' (first|exact trivial|exact rfl|assumption|apply zb_.ite|apply And.intro|intro _ |(simp only[zb_,zh_,zw_,prS,insS,sndsS,sndS];done)))):P:=h
theorem k28_ {P:Prop}(h:P:=by simp only[push_cast,↓JP,Nat.reduceAdd,Nat.reduceEqDiff,Nat.reduceLT,Nat.reduceMul,Nat.reduceLeDiff,reduceCtorEq,reduceIte,resV,resV1];rfl):P:=h
theorem k29_ {P:Prop}(h:P:=by(simp only[push_cast,↓JP,Nat.reduceAdd,Nat.reduceEqDiff,Nat.reduceLT,Nat.reduceMul,Nat.reduceLeDiff,reduceCtorEq,reduceIte];rfl)):P:=h
theorem k30_ {P:Prop}(h:P:=by(first|exact True.intro |((try simp only[JS,implies_true,forall_const,yc_,yf_,kndOf,inR,inN]);(repeat' (first|assumption|exact True.intro|omega|apply And.intro));done))):P:=h
theorem k31_ {P:Prop}(h:P:=by(simp only[push_cast,↓JP,Nat.reduceAdd,Nat.reduceEqDiff,Nat.reduceLT,Nat.reduceMul,Nat.reduceLeDiff,reduceCtorEq,reduceIte,hjl,hc,inR,inN];rfl)):P:=h
theorem k32_ {P:Prop}(h:P:=by(simp only[push_cast,↓JP,Nat.reduceAdd,Nat.reduceEqDiff,Nat.reduceLT,Nat.reduceMul,Nat.reduceLeDiff,reduceCtorEq,reduceIte,hjl];rfl)):P:=h
theorem k33_ {P:Prop}(h:P:=by simp only[push_cast,↓JP,Nat.reduceAdd,Nat.reduceEqDiff,Nat.reduceLT,Nat.reduceMul,Nat.reduceLeDiff,reduceCtorEq,reduceIte,↓JK,resV,resV1];rfl):P:=h
theorem k34_ {P:Prop}(h:P:=by refine⟨⟨hkl,fun i hi y hy=>?_⟩,by omega⟩;by_cases h:i=k;(subst h;rw[hx2]at hy;cases hy;exact eb);exact hB i (by omega) y hy):P:=h
theorem yh_ {P:Prop}(h:P:=by(repeat' (first|exact trivial|exact rfl|assumption|apply zb_.ite|apply And.intro|intro _ |(simp only[zb_,zh_,zw_,bO,HB.stable];done)))):P:=h
theorem k36_ {P:Prop}(h:P:=by exact⟨⟨by dsimp only;omega,by dsimp only;exact hA',by dsimp only;omega,by dsimp only;omega⟩,by dsimp only;omega⟩):P:=h
theorem k37_ {P:Prop}(h:P:=by(repeat' (first|exact trivial|exact .inl rfl|exact .inr (.same _)|exact .inr .loose|exact .inr (.arr (by assumption))|apply And.intro |(exact .inr (less_apB _ _ hTl hU rfl (fun β=>rfl)))))):P:=h
theorem k38_ {P:Prop}(h:P:=by(repeat' (first|exact trivial|exact⟨_,rfl,fun β=>rfl⟩|apply And.intro|exact⟨_,rfl,hden⟩))):P:=h
theorem k39_ {P:Prop}(h:P:=by(focus (first|exact True.intro |((try simp only[JS,implies_true,forall_const,yc_,yf_,kndOf]);(repeat' (first|assumption|exact True.intro|omega|apply And.intro));done)))):P:=h
theorem k40_ {P:Prop}(h:P:=by(simp only[push_cast,↓JP,Nat.reduceAdd,Nat.reduceEqDiff,Nat.reduceLT,Nat.reduceMul,Nat.reduceLeDiff,reduceCtorEq,reduceIte,↓JK];rfl)):P:=h
theorem k41_ {P:Prop}(h:P:=by(simp only[push_cast,↓JP,Nat.reduceAdd,Nat.reduceEqDiff,Nat.reduceLT,Nat.reduceMul,Nat.reduceLeDiff,reduceCtorEq,reduceIte,↓JK,h0,h256];rfl)):P:=h
theorem k42_ {P:Prop}(h:P:=by(first|exact True.intro |((try simp only[JS,implies_true,forall_const,yc_,yf_,kndOf,inR,inN]);(first|first|omega|assumption |(repeat' (first|assumption|exact True.intro|omega|apply And.intro)));done))):P:=h
theorem k43_ {P:Prop}(h:P:=by(simp only[push_cast,↓JP,Nat.reduceAdd,Nat.reduceEqDiff,Nat.reduceLT,Nat.reduceMul,Nat.reduceLeDiff,reduceCtorEq,reduceIte,↓JK,evm_in1,cRCk,sROne,sRTarg,sRGoes,hkl,hx,he,ht,hv,inR,inN];rfl)):P:=h
theorem k44_ {P:Prop}(h:P:=by(simp only[push_cast,↓JP,Nat.reduceAdd,Nat.reduceEqDiff,Nat.reduceLT,Nat.reduceMul,Nat.reduceLeDiff,reduceCtorEq,reduceIte,↓JK,evm_in1,cRCk,sROne,sRTarg,sRGoes,hkl,hx,hg,hlm,inR,inN];rfl)):P:=h
theorem k45_ {P:Prop}(h:P:=by(first|exact True.intro |((repeat' (first|exact True.intro|apply And.intro|omega|exact(tdB (by omega) (by omega)).1|exact(tdB (by omega) (by omega)).2|decide));done) |((try simp only[JS,implies_true,forall_const,yc_,yf_,kndOf,inR,inN]);(repeat' (first|assumption|exact True.intro|omega|apply And.intro));done))):P:=h
theorem k46_ {P:Prop}(h:P:=by refine⟨u1_,u1_,u1_,⟨_,rfl,fun β h0 hx=>(nilB_cl h0 (show β 5=(none,0) from hx) 1).symm⟩,u1_,trivial⟩):P:=h
theorem k47_ {P:Prop}(h:P:=by(repeat' (first|exact trivial|exact .inl rfl|exact .inr (.same _)|exact .inr .loose|exact .inr (.arr (by assumption))|apply And.intro |(simp only[bO,hlZ,hTk];exact .inr (.same _))))):P:=h
theorem k48_ {P:Prop}(h:P:=by(repeat' (first|exact trivial|exact⟨_,rfl,fun β=>rfl⟩|apply And.intro))):P:=h
theorem k49_ {P:Prop}(h:P:=by(simp only[push_cast,↓JP,Nat.reduceAdd,Nat.reduceEqDiff,Nat.reduceLT,Nat.reduceMul,Nat.reduceLeDiff,reduceCtorEq,reduceIte,hjl,hx,hy,zw_,inR,inN,List.all_cons,List.all_nil];rfl)):P:=h
theorem k50_ {P:Prop}(h:P:=by(first|exact True.intro |((repeat' (first|exact True.intro|apply And.intro|omega|decide));done) |((try simp only[JS,implies_true,forall_const,yc_,yf_,kndOf,inR,inN]);(repeat' (first|assumption|exact True.intro|omega|apply And.intro));done))):P:=h
theorem k51_ {P:Prop}(h:P:=by(repeat' (first|exact trivial|exact rfl|assumption|apply zb_.ite|apply And.intro|intro _ |(simp only[zb_,zh_,zw_,bO,upS,HB.stable];done)))):P:=h
theorem k52_ {P:Prop}(h:P:=by simp only[if_true,BitVec.getLsbD_not,BitVec.getLsbD_ushiftRight,BitVec.getLsbD_allOnes,hi,decide_true,decide_false,Bool.true_and,Nat.add_comm n i,h,Bool.not_true,Bool.not_false,Bool.or_false,Bool.or_true]):P:=h
theorem k53_ {P:Prop}(h:P:=by(repeat' (first|exact trivial|exact .inl rfl|exact .inr (.same _)|exact .inr .loose|exact .inr (.arr (by assumption))|apply And.intro))):P:=h
theorem k54_ {P:Prop}(h:P:=by refine⟨⟨hkl,fun q h1 h2=>?_⟩,by omega⟩;by_cases e:q=63 - k;(rw[e,b1,b2]);exact hq q (by omega) h2):P:=h
theorem k55_ {P:Prop}(h:P:=by(repeat' (first|exact trivial|exact .inl rfl|exact .inr (.same _)|exact .inr .loose|exact .inr (.arr (by assumption))|apply And.intro |(rw[e];exact .inr (.same _))))):P:=h
theorem k56_ {P:Prop}(h:P:=by(repeat' (first|exact trivial|exact⟨_,rfl,fun β=>rfl⟩|apply And.intro |(rw[e];exact⟨_,rfl,fun β=>rfl⟩)))):P:=h
theorem k57_ {P:Prop}(h:P:=by(simp only[push_cast,↓JP,Nat.reduceAdd,Nat.reduceEqDiff,Nat.reduceLT,Nat.reduceMul,Nat.reduceLeDiff,reduceCtorEq,reduceIte,hk0,hkt,hx,hy,zw_,inR,inN];rfl)):P:=h
theorem k58_ {P:Prop}(h:P:=by(simp only[push_cast,↓JP,Nat.reduceAdd,Nat.reduceEqDiff,Nat.reduceLT,Nat.reduceMul,Nat.reduceLeDiff,reduceCtorEq,reduceIte,hk0];rfl)):P:=h
theorem k59_ {P:Prop}(h:P:=by(first|exact True.intro |((try simp only[and_self,true_and,and_true,implies_true,forall_const,yl_,yu_,ls_i64B,ls_zB,zc_,vb_bl,Nat.zero_add,iOf]);(repeat' (first|exact True.intro|apply And.intro|rfl|omega|assumption |(exact .inl rfl) |(exact .inr rfl)|decide|intro _));done) |((try simp only[JS,implies_true,forall_const,yc_,yf_,kndOf,inR,inN]);(repeat' (first|assumption|exact True.intro|omega|apply And.intro));done))):P:=h
theorem k60_ {P:Prop}(h:P:=by(repeat' (first|exact trivial|exact rfl|assumption|exact hst _ _|exact hst1 _ _|exact hst2 _ _|apply zb_.ite|apply And.intro|intro _ |(simp only[zb_,zh_,zw_,bO,HB.stable];done)))):P:=h
theorem k61_ {P:Prop}(h:P:=by(repeat' (first|exact trivial|exact .inl rfl|exact .inr (.same _)|exact .inr .loose|exact .inr (.arr (by assumption))|apply And.intro |(exact .inr (less_q1 _ k hkl eq rfl (fun β=>rfl))) |(rw[eR2];exact .inr (.same _))))):P:=h
theorem k62_ {P:Prop}(h:P:=by(repeat' (first|exact trivial|exact⟨_,rfl,fun β=>rfl⟩|apply And.intro |(first|exact⟨_,rfl,hden⟩ |(rw[eR2];exact⟨_,rfl,fun β=>rfl⟩))))):P:=h
theorem k63_ {P:Prop}(h:P:=by(first|exact True.intro |((try simp only[and_self,true_and,and_true,implies_true,forall_const,yl_,yu_,ls_i64B,ls_i64U,ls_zB,zc_,vb_bl,it_one,hR1,hR1u,Nat.zero_add,iOf]);(repeat' (first|exact True.intro|apply And.intro|rfl|omega|assumption |(exact .inl rfl) |(exact .inr rfl)|decide|intro _));done) |((try simp only[JS,implies_true,forall_const,yc_,yf_,kndOf,inR,inN]);(repeat' (first|assumption|exact True.intro|omega|apply And.intro));done))):P:=h
theorem k64_ {P:Prop}(h:P:=by(simp only[push_cast,↓JP,Nat.reduceAdd,Nat.reduceEqDiff,Nat.reduceLT,Nat.reduceMul,Nat.reduceLeDiff,reduceCtorEq,reduceIte,cDiv,sRUp,sRSum,sRNot,sRLess,bO,hk0,hkt,hx,ht1,hlt,hR1,hR1u,yz_,yy_,iOf,yu_,yl_,ls_i64B,ls_i64U,vb_bl,sumV_sub,ed,zw_,qS_size,it_one,Int.toNat_natCast,nat_one_i,inR,inN];rfl)):P:=h
theorem k65_ {P:Prop}(h:P:=by(first|exact True.intro |((try simp only[and_self,true_and,and_true,implies_true,forall_const,yl_,yu_,ls_i64B,ls_i64U,ls_zB,zc_,vb_bl,Nat.zero_add,iOf,hn0,hn1,hq]);(repeat' (first|exact True.intro|apply And.intro|rfl|omega|assumption |(exact .inl rfl) |(exact .inr rfl)|decide|intro _));done) |((try simp only[JS,implies_true,forall_const,yc_,yf_,kndOf]);(repeat' (first|assumption|exact True.intro|omega|apply And.intro));done))):P:=h
theorem k66_ {P:Prop}(h:P:=by(simp only[push_cast,↓JP,Nat.reduceAdd,Nat.reduceEqDiff,Nat.reduceLT,Nat.reduceMul,Nat.reduceLeDiff,reduceCtorEq,reduceIte,cApp,hX,hY,hP,hQ,hQm,hQd,hy0,hy1,hy2,hy3,hy4,hy5,hn,ed,ed0,Int.cast_ofNat_Int,(eq_true h0)];rfl)):P:=h
theorem k67_ {P:Prop}(h:P:=by(simp only[push_cast,↓JP,Nat.reduceAdd,Nat.reduceEqDiff,Nat.reduceLT,Nat.reduceMul,Nat.reduceLeDiff,reduceCtorEq,reduceIte,cApp,hX,hY,hP,hQ,hQm,hQd,hy0,hy1,hy2,hy3,hy4,hy5,hn,ed,ed0,Int.cast_ofNat_Int,h0];rfl)):P:=h
theorem k68_ {P:Prop}(h:P:=by(simp only[push_cast,↓JP,Nat.reduceAdd,Nat.reduceEqDiff,Nat.reduceLT,Nat.reduceMul,Nat.reduceLeDiff,reduceCtorEq,reduceIte,cApp,hX,hY,hP,hQ,hQm,hQd,hy0,hy1,hy2,hy3,hy4,hy5,hn,ed,ed0,Int.cast_ofNat_Int,h0,h1,h2,bne_self_eq_false,Bool.bne_true,Bool.bne_false,Bool.true_bne,Bool.false_bne];rfl)):P:=h
theorem k69_ {P:Prop}(h:P:=by(simp only[push_cast,↓JP,Nat.reduceAdd,Nat.reduceEqDiff,Nat.reduceLT,Nat.reduceMul,Nat.reduceLeDiff,reduceCtorEq,reduceIte,hX,hY,hP,hQ,hQm,hQd,hy0,hy1,hy2,hy3,hy4,hy5,hn,Int.cast_ofNat_Int,h0,h1];rfl)):P:=h
theorem k70_ {P:Prop}(h:P:=by(simp only[push_cast,↓JP,Nat.reduceAdd,Nat.reduceEqDiff,Nat.reduceLT,Nat.reduceMul,Nat.reduceLeDiff,reduceCtorEq,reduceIte,hX,hY,hP,hQ,hQm,hQd,hy0,hy1,hy2,hy3,hy4,hy5,hn,Int.cast_ofNat_Int,(eq_true h0)];rfl)):P:=h
theorem k71_ {P:Prop}(h:P:=by(simp only[push_cast,↓JP,Nat.reduceAdd,Nat.reduceEqDiff,Nat.reduceLT,Nat.reduceMul,Nat.reduceLeDiff,reduceCtorEq,reduceIte,hX,hY,hP,hQ,hQm,hQd,hy0,hy1,hy2,hy3,hy4,hy5,hn,Int.cast_ofNat_Int,h0];rfl)):P:=h
theorem k72_ {P:Prop}(h:P:=by(simp only[push_cast,↓JP,Nat.reduceAdd,Nat.reduceEqDiff,Nat.reduceLT,Nat.reduceMul,Nat.reduceLeDiff,reduceCtorEq,reduceIte,hX,hY,hP,hQ,hQm,hQd,hy0,hy1,hy2,hy3,hy4,hy5,hn,Int.cast_ofNat_Int,(eq_true h0),h6];rfl)):P:=h
theorem k73_ {P:Prop}(h:P:=by(simp only[push_cast,↓JP,Nat.reduceAdd,Nat.reduceEqDiff,Nat.reduceLT,Nat.reduceMul,Nat.reduceLeDiff,reduceCtorEq,reduceIte,hX,hY,hP,hQ,hQm,hQd,hy0,hy1,hy2,hy3,hy4,hy5,hn,Int.cast_ofNat_Int,h0,h6];rfl)):P:=h
theorem k74_ {P:Prop}(h:P:=by(simp only[push_cast,↓JP,Nat.reduceAdd,Nat.reduceEqDiff,Nat.reduceLT,Nat.reduceMul,Nat.reduceLeDiff,reduceCtorEq,reduceIte,hX,hY,hP,hQ,hQm,hQd,hy0,hy1,hy2,hy3,hy4,hy5,hn,Int.cast_ofNat_Int,(eq_true h0),h1];rfl)):P:=h
theorem k75_ {P:Prop}(h:P:=by rename_i q;intro hf hc;obtain⟨q1,q2,q3,q4⟩:=hc;exact⟨by omega,by omega,by omega,fun t=>by omega,by omega⟩):P:=h
theorem k76_ {P:Prop}(h:P:=by rename_i q;intro hf hc;obtain⟨q1,q2,q3,q4,q5⟩:=hc;exact⟨by omega,by omega,by omega,fun t=>by omega,by omega⟩):P:=h
theorem k77_ {P:Prop}(h:P:=by simp only[push_cast,↓JP,Nat.reduceAdd,Nat.reduceEqDiff,Nat.reduceLT,Nat.reduceMul,Nat.reduceLeDiff,reduceCtorEq,reduceIte,↓JK,↓JF];rfl):P:=h
theorem k78_ {P:Prop}(h:P:=by exact⟨⟨hkl,scan_next hsc hre hX hs0⟩,by omega⟩):P:=h
theorem k79_ {P:Prop}(h:P:=by simp only[push_cast,↓JP,Nat.reduceAdd,Nat.reduceEqDiff,Nat.reduceLT,Nat.reduceMul,Nat.reduceLeDiff,reduceCtorEq,reduceIte,↓JK,↓JF,noDefer,List.drop_zero,List.drop_succ_cons,cFa,sGoes,xc_,xh_,sMeet,sHands,hX,inN,inR,y0_,↓ym_,↓yj_,ft_eq,hrT,hsm,hTl];rfl):P:=h
theorem k80_ {P:Prop}(h:P:=by(focus (first|exact True.intro |((try simp only[JS,implies_true,forall_const,yc_,yf_,kndOf,inN,inR]);(repeat' (first|assumption|exact True.intro|omega|apply And.intro));done)))):P:=h
theorem k81_ {P:Prop}(h:P:=by first|rfl |(simp only[push_cast,↓JP,Nat.reduceAdd,Nat.reduceEqDiff,Nat.reduceLT,Nat.reduceMul,Nat.reduceLeDiff,reduceCtorEq,reduceIte,↓JK,↓JF,noDefer,List.drop_zero,List.drop_succ_cons,cFa,sGoes,xc_,xh_,sMeet,sHands,hX,inN,inR,y0_,↓ym_,↓yj_,ft_eq,hrT,hsm,hTl];done)):P:=h
theorem k82_ {P:Prop}(h:P:=by exact⟨⟨hlt.2.trans hFl,iter_next hs1 hlt.1 hm hFm⟩,hlt.1⟩):P:=h
theorem k83_ {P:Prop}(h:P:=by simp only[push_cast,↓JP,Nat.reduceAdd,Nat.reduceEqDiff,Nat.reduceLT,Nat.reduceMul,Nat.reduceLeDiff,reduceCtorEq,reduceIte,↓JK,↓JF,noDefer,List.drop_zero,List.drop_succ_cons,cFa,sGoes,xc_,xh_,sMeet,sHands,hX,inN,inR,y0_,↓ym_,↓yj_,ft_eq,hTn,Int.toNat_natCast,hrT,hsm,hTl];rfl):P:=h
theorem k84_ {P:Prop}(h:P:=by first|rfl |(simp only[push_cast,↓JP,Nat.reduceAdd,Nat.reduceEqDiff,Nat.reduceLT,Nat.reduceMul,Nat.reduceLeDiff,reduceCtorEq,reduceIte,↓JK,↓JF,noDefer,List.drop_zero,List.drop_succ_cons,cFa,sGoes,xc_,xh_,sMeet,sHands,hX,inN,inR,y0_,↓ym_,↓yj_,ft_eq,hTn,Int.toNat_natCast,hrT,hsm,hTl];done)):P:=h
theorem k85_ {P:Prop}(h:P:=by(first|exact True.intro |((try simp only[JS,implies_true,forall_const,yc_,yf_,kndOf,inN]);(repeat' (first|assumption|exact True.intro|omega|apply And.intro));done))):P:=h
theorem k86_ {P:Prop}(h:P:=by(simp only[push_cast,↓JP,Nat.reduceAdd,Nat.reduceEqDiff,Nat.reduceLT,Nat.reduceMul,Nat.reduceLeDiff,reduceCtorEq,reduceIte,↓JK,↓JF,cFa,sGoes,xc_,xh_,sMeet,sHands,hX,inN,inR,y0_,↓ym_,↓yj_,ft_eq,h,hG10,hT10,hk1,hk0];rfl)):P:=h
theorem k87_ {P:Prop}(h:P:=by(simp only[push_cast,↓JP,Nat.reduceAdd,Nat.reduceEqDiff,Nat.reduceLT,Nat.reduceMul,Nat.reduceLeDiff,reduceCtorEq,reduceIte,↓JK,↓JF,cFa,sGoes,xc_,xh_,sMeet,sHands,hX,inN,inR,y0_,↓ym_,↓yj_,ft_eq,h,hG11,hT11,hk1,hk0];rfl)):P:=h
theorem k88_ {P:Prop}(h:P:=by(simp only[push_cast,↓JP,Nat.reduceAdd,Nat.reduceEqDiff,Nat.reduceLT,Nat.reduceMul,Nat.reduceLeDiff,reduceCtorEq,reduceIte,↓JK,↓JF,cFa,sGoes,xc_,xh_,sMeet,sHands,hX,inN,inR,y0_,↓ym_,↓yj_,ft_eq,n3,n4,n5,n7,n6,n8,n10,n11,h32,hG12,hT12,hr2];rfl)):P:=h
theorem k89_ {P:Prop}(h:P:=by(simp only[push_cast,↓JP,Nat.reduceAdd,Nat.reduceEqDiff,Nat.reduceLT,Nat.reduceMul,Nat.reduceLeDiff,reduceCtorEq,reduceIte,↓JK,↓JF,inN];rfl)):P:=h
theorem k90_ {P:Prop}(h:P:=by(simp only[push_cast,↓JP,Nat.reduceAdd,Nat.reduceEqDiff,Nat.reduceLT,Nat.reduceMul,Nat.reduceLeDiff,reduceCtorEq,reduceIte,↓JK,↓JF,cFa,sGoes,xc_,xh_,sMeet,sHands,hX,inN,inR,y0_,↓ym_,↓yj_,ft_eq];rfl)):P:=h
theorem k91_ {P:Prop}(h:P:=by(first|exact True.intro |((simp only[true_and,and_true,and_self,Nat.zero_add,↓ym_,↓yj_];(repeat' (first|assumption|exact True.intro|omega|apply And.intro)));done) |((try simp only[JS,implies_true,forall_const,yc_,yf_,kndOf,inN,inR]);(repeat' (first|assumption|exact True.intro|omega|apply And.intro));done))):P:=h
theorem k92_ {P:Prop}(h:P:=by(simp only[push_cast,↓JP,Nat.reduceAdd,Nat.reduceEqDiff,Nat.reduceLT,Nat.reduceMul,Nat.reduceLeDiff,reduceCtorEq,reduceIte,↓JK,↓JF,cFa,sGoes,xc_,xh_,sMeet,sHands,hX,inN,inR,y0_,↓ym_,↓yj_,ft_eq,hrT,hsm,hTl];rfl)):P:=h
theorem k93_ {P:Prop}(h:P:=by(simp only[push_cast,↓JP,Nat.reduceAdd,Nat.reduceEqDiff,Nat.reduceLT,Nat.reduceMul,Nat.reduceLeDiff,reduceCtorEq,reduceIte,↓JK,↓JF,cFa,sGoes,xc_,xh_,sMeet,sHands,hX,inN,inR,y0_,↓ym_,↓yj_,ft_eq,hTn,Int.toNat_natCast,hrT,hsm,hTl];rfl)):P:=h
theorem k94_ {P:Prop}(h:P:=by(simp only[push_cast,↓JP,Nat.reduceAdd,Nat.reduceEqDiff,Nat.reduceLT,Nat.reduceMul,Nat.reduceLeDiff,reduceCtorEq,reduceIte,↓JK,↓JF,ha,hb,hn];rfl)):P:=h
theorem k95_ {P:Prop}(h:P:=by(simp only[push_cast,↓JP,Nat.reduceAdd,Nat.reduceEqDiff,Nat.reduceLT,Nat.reduceMul,Nat.reduceLeDiff,reduceCtorEq,reduceIte,↓JK,↓JF,cRAf,sRAp,xk_,hre,h1,h2,h3,h4,h5,h7,h32,d1,d2,hb1,hc1,hw];rfl)):P:=h
theorem k96_ {P:Prop}(h:P:=by(simp only[push_cast,↓JP,Nat.reduceAdd,Nat.reduceEqDiff,Nat.reduceLT,Nat.reduceMul,Nat.reduceLeDiff,reduceCtorEq,reduceIte,↓JK,↓JF,cRAf,sRAp,xk_,hre,h1,h2,h3,h4,h5,h7,h32,d1,hb1,hc1,hw];rfl)):P:=h
theorem k97_ {P:Prop}(h:P:=by(simp only[push_cast,↓JP,Nat.reduceAdd,Nat.reduceEqDiff,Nat.reduceLT,Nat.reduceMul,Nat.reduceLeDiff,reduceCtorEq,reduceIte,↓JK,↓JF,cRAf,sRAp,xk_,hre,h1,h2,h3,h4,h5,h7,h32,d1,d2,hc1,hcn0,hb1,hw];rfl)):P:=h
theorem k98_ {P:Prop}(h:P:=by(simp only[push_cast,↓JP,Nat.reduceAdd,Nat.reduceEqDiff,Nat.reduceLT,Nat.reduceMul,Nat.reduceLeDiff,reduceCtorEq,reduceIte,↓JK,↓JF,hre,h5,q1,q2,q3,q5];rfl)):P:=h
theorem k99_ {P:Prop}(h:P:=by(simp only[push_cast,↓JP,Nat.reduceAdd,Nat.reduceEqDiff,Nat.reduceLT,Nat.reduceMul,Nat.reduceLeDiff,reduceCtorEq,reduceIte,↓JK,↓JF,hre,h6,q1,q2,q3,q5];rfl)):P:=h
theorem k100_ {P:Prop}(h:P:=by(simp only[push_cast,↓JP,Nat.reduceAdd,Nat.reduceEqDiff,Nat.reduceLT,Nat.reduceMul,Nat.reduceLeDiff,reduceCtorEq,reduceIte,↓JK,↓JF,hre,h7,q2,q5];rfl)):P:=h
theorem k101_ {P:Prop}(h:P:=by(simp only[push_cast,↓JP,Nat.reduceAdd,Nat.reduceEqDiff,Nat.reduceLT,Nat.reduceMul,Nat.reduceLeDiff,reduceCtorEq,reduceIte,↓JK,↓JF,hre,h8,q5,q2,q3];rfl)):P:=h
theorem k102_ {P:Prop}(h:P:=by(simp only[push_cast,↓JP,Nat.reduceAdd,Nat.reduceEqDiff,Nat.reduceLT,Nat.reduceMul,Nat.reduceLeDiff,reduceCtorEq,reduceIte,↓JK,↓JF,hre,h36,q1,q2];rfl)):P:=h
theorem k103_ {P:Prop}(h:P:=by(simp only[push_cast,↓JP,Nat.reduceAdd,Nat.reduceEqDiff,Nat.reduceLT,Nat.reduceMul,Nat.reduceLeDiff,reduceCtorEq,reduceIte,↓JK,↓JF,hre,h37,q1,q2];rfl)):P:=h
theorem k104_ {P:Prop}(h:P:=by(simp only[push_cast,↓JP,Nat.reduceAdd,Nat.reduceEqDiff,Nat.reduceLT,Nat.reduceMul,Nat.reduceLeDiff,reduceCtorEq,reduceIte,↓JK,↓JF,hre,h38,q1,q2];rfl)):P:=h
theorem k105_ {P:Prop}(h:P:=by(simp only[push_cast,↓JP,Nat.reduceAdd,Nat.reduceEqDiff,Nat.reduceLT,Nat.reduceMul,Nat.reduceLeDiff,reduceCtorEq,reduceIte,↓JK,↓JF,cRJo,sRBoth,ha,hb,inN,inR];rfl)):P:=h
theorem k106_ {P:Prop}(h:P:=by(simp only[push_cast,↓JP,Nat.reduceAdd,Nat.reduceEqDiff,Nat.reduceLT,Nat.reduceMul,Nat.reduceLeDiff,reduceCtorEq,reduceIte,↓JK,↓JF,cRFa,hr8,inN,inR];rfl)):P:=h
theorem k107_ {P:Prop}(h:P:=by(simp only[push_cast,↓JP,Nat.reduceAdd,Nat.reduceEqDiff,Nat.reduceLT,Nat.reduceMul,Nat.reduceLeDiff,reduceCtorEq,reduceIte,↓JK,↓JF,cRFa,inN,inR];rfl)):P:=h
theorem xb_ {P:Prop}(h:P:=by(first|exact True.intro |((repeat' (first|exact True.intro|assumption|omega|exact fun q _=>rfl|apply And.intro|rfl|contradiction|intro _));done) |((try simp only[JS,implies_true,forall_const,yc_,yf_,kndOf,inN,inR]);(repeat' (first|assumption|exact True.intro|omega|apply And.intro));done))):P:=h
theorem k109_ {P:Prop}(h:P:=by(simp only[push_cast,↓JP,Nat.reduceAdd,Nat.reduceEqDiff,Nat.reduceLT,Nat.reduceMul,Nat.reduceLeDiff,reduceCtorEq,reduceIte,↓JK,↓JF,cRFa,sRGo17,sRAft,sRJoin,y9_,yt_,ys_,y0_,hX,hF,hr,hg,hil,Int.toNat_natCast,inN,inR];rfl)):P:=h
theorem x5_ {P:Prop}(h:P:=by(repeat' (first|exact trivial|exact rfl|assumption|apply zb_.ite|exact nilOr_st rfl rfl|apply And.intro|intro _ |(simp only[zb_,zh_,zw_,prS,insS,sndsS,sndS,kS,kaS,ftS,y0_];done)))):P:=h
theorem k111_ {P:Prop}(h:P:=by simp only[push_cast,↓JP,Nat.reduceAdd,Nat.reduceEqDiff,Nat.reduceLT,Nat.reduceMul,Nat.reduceLeDiff,reduceCtorEq,reduceIte,↓JK,↓JF,noDefer,List.drop_zero,List.drop_succ_cons,cWys,inN,he];rfl):P:=h
theorem k112_ {P:Prop}(h:P:=by(focus (first|exact True.intro |((try simp only[JS,implies_true,forall_const,yc_,yf_,kndOf,inN]);(repeat' (first|assumption|exact True.intro|omega|apply And.intro));done)))):P:=h
theorem k113_ {P:Prop}(h:P:=by first|rfl |(simp only[push_cast,↓JP,Nat.reduceAdd,Nat.reduceEqDiff,Nat.reduceLT,Nat.reduceMul,Nat.reduceLeDiff,reduceCtorEq,reduceIte,↓JK,↓JF,noDefer,List.drop_zero,List.drop_succ_cons,cWys,inN,he];done)):P:=h
theorem k114_ {P:Prop}(h:P:=by(repeat' (first|exact trivial|exact .inl rfl|exact .inr (.same _)|exact .inr .loose|exact .inr (.arr (by assumption))|apply And.intro |(rw[e];exact .inr (hA1 _ (fun q _=>rfl) _)) |(rw[e];refine .inr (less_nil ?_ ?_ ?_)<;>first|rfl|simp)))):P:=h
theorem k115_ {P:Prop}(h:P:=by(repeat' (first|exact trivial|exact .inl rfl|exact .inr (.same _)|exact .inr .loose|exact .inr (.arr (by assumption))|apply And.intro |(rw[e1,e2];exact .inr (.same _))))):P:=h
theorem k116_ {P:Prop}(h:P:=by(first|exact True.intro |((try simp only[JS,implies_true,forall_const,yc_,yf_,kndOf]);(first|exact⟨fun q _=>rfl,hx,by omega⟩ |(repeat' (first|assumption|exact True.intro|omega|apply And.intro)));done))):P:=h
theorem k117_ {P:Prop}(h:P:=by(simp only[push_cast,↓JP,Nat.reduceAdd,Nat.reduceEqDiff,Nat.reduceLT,Nat.reduceMul,Nat.reduceLeDiff,reduceCtorEq,reduceIte,↓JK,↓JF,cWys,sFits,sWhys,y9_,yt_,ys_,hfit];rfl)):P:=h
theorem k118_ {P:Prop}(h:P:=by(simp only[push_cast,↓JP,Nat.reduceAdd,Nat.reduceEqDiff,Nat.reduceLT,Nat.reduceMul,Nat.reduceLeDiff,reduceCtorEq,reduceIte,↓JK,↓JF,cWys,sFactsI,y9_,yt_,ys_,hc,←hF];rfl)):P:=h
theorem k119_ {P:Prop}(h:P:=by(simp only[push_cast,↓JP,Nat.reduceAdd,Nat.reduceEqDiff,Nat.reduceLT,Nat.reduceMul,Nat.reduceLeDiff,reduceCtorEq,reduceIte,↓JK,↓JF,cWys,sWhyL,y0_,hX,inN,hkl,he];rfl)):P:=h
theorem k120_ {P:Prop}(h:P:=by(simp only[push_cast,↓JP,Nat.reduceAdd,Nat.reduceEqDiff,Nat.reduceLT,Nat.reduceMul,Nat.reduceLeDiff,reduceCtorEq,reduceIte,↓JK,↓JF,cWys,inN,he];rfl)):P:=h
theorem k121_ {P:Prop}(h:P:=by(simp only[push_cast,↓JP,Nat.reduceAdd,Nat.reduceEqDiff,Nat.reduceLT,Nat.reduceMul,Nat.reduceLeDiff,reduceCtorEq,reduceIte,↓JK,↓JF,cWys,inN,he,Nat.sub_zero];rfl)):P:=h
theorem k122_ {P:Prop}(h:P:=by(simp only[push_cast,↓JP,Nat.reduceAdd,Nat.reduceEqDiff,Nat.reduceLT,Nat.reduceMul,Nat.reduceLeDiff,reduceCtorEq,reduceIte,↓JK,↓JF,cWys,inN];rfl)):P:=h
theorem k123_ {P:Prop}(h:P:=by(simp only[push_cast,↓JP,Nat.reduceAdd,Nat.reduceEqDiff,Nat.reduceLT,Nat.reduceMul,Nat.reduceLeDiff,reduceCtorEq,reduceIte,↓JK,↓JF,cLst,y0_,hX,inN,inR,hkl,hre,h5,q1,q2,q3];rfl)):P:=h
theorem k124_ {P:Prop}(h:P:=by(simp only[push_cast,↓JP,Nat.reduceAdd,Nat.reduceEqDiff,Nat.reduceLT,Nat.reduceMul,Nat.reduceLeDiff,reduceCtorEq,reduceIte,↓JK,↓JF,cLst,y0_,hX,inN,inR,hkl,hre,h6,q1,q2,q3];rfl)):P:=h
theorem k125_ {P:Prop}(h:P:=by simp only[push_cast,↓JP,Nat.reduceAdd,Nat.reduceEqDiff,Nat.reduceLT,Nat.reduceMul,Nat.reduceLeDiff,reduceCtorEq,reduceIte,↓JK,↓JF,noDefer,List.drop_zero,List.drop_succ_cons,cWys,inN,hf,h176];rfl):P:=h
theorem k126_ {P:Prop}(h:P:=by first|rfl |(simp only[push_cast,↓JP,Nat.reduceAdd,Nat.reduceEqDiff,Nat.reduceLT,Nat.reduceMul,Nat.reduceLeDiff,reduceCtorEq,reduceIte,↓JK,↓JF,noDefer,List.drop_zero,List.drop_succ_cons,cWys,inN,hf,h176];done)):P:=h
theorem k127_ {P:Prop}(h:P:=by simp only[push_cast,↓JP,Nat.reduceAdd,Nat.reduceEqDiff,Nat.reduceLT,Nat.reduceMul,Nat.reduceLeDiff,reduceCtorEq,reduceIte,↓JK,↓JF,noDefer,List.drop_zero,List.drop_succ_cons,cWys,inN,he,hf];rfl):P:=h
theorem k128_ {P:Prop}(h:P:=by first|rfl |(simp only[push_cast,↓JP,Nat.reduceAdd,Nat.reduceEqDiff,Nat.reduceLT,Nat.reduceMul,Nat.reduceLeDiff,reduceCtorEq,reduceIte,↓JK,↓JF,noDefer,List.drop_zero,List.drop_succ_cons,cWys,inN,he,hf];done)):P:=h
theorem k129_ {P:Prop}(h:P:=by(simp only[push_cast,↓JP,Nat.reduceAdd,Nat.reduceEqDiff,Nat.reduceLT,Nat.reduceMul,Nat.reduceLeDiff,reduceCtorEq,reduceIte,↓JK,↓JF,cWys,inN,hf];rfl)):P:=h
theorem k130_ {P:Prop}(h:P:=by(simp only[push_cast,↓JP,Nat.reduceAdd,Nat.reduceEqDiff,Nat.reduceLT,Nat.reduceMul,Nat.reduceLeDiff,reduceCtorEq,reduceIte,↓JK,↓JF,cWys,inN,he,hf];rfl)):P:=h
theorem k131_ {P:Prop}(h:P:=by refine⟨⟨_,rfl,fun β _ _=>rfl⟩,⟨_,rfl,fun β _ _=>rfl⟩,⟨_,rfl,fun β _ _=>rfl⟩,⟨_,rfl,fun β h0 hx=>(nilB_cl h0 (show β 5=(none,0) from hx) 1).symm⟩,⟨_,rfl,fun β _ _=>rfl⟩,trivial⟩):P:=h
theorem k132_ {P:Prop}(h:P:=by(repeat' (first|exact trivial|exact .inl rfl|exact .inr (.same _)|exact .inr .loose|exact .inr (.arr (by assumption))|apply And.intro |(rw[e1,e2];exact .inr (.same _)) |(rw[e1,e2];exact .inr (.val (fun β=>rfl) (fun n k f e=>by cases e) (fun n k f e=>by cases e)))))):P:=h
theorem k133_ {P:Prop}(h:P:=by(first|exact True.intro |((try simp only[JS,implies_true,forall_const,yc_,yf_,kndOf]);(first|exact⟨fun q _=>rfl,hx,hc⟩ |(repeat' (first|assumption|exact True.intro|omega|apply And.intro)));done))):P:=h
theorem k134_ {P:Prop}(h:P:=by(first|exact True.intro |((repeat' (first|exact True.intro|assumption|omega|exact fun q _=>rfl|apply And.intro|rfl|contradiction|intro _));done) |((try simp only[JS,implies_true,forall_const,yc_,yf_,kndOf]);(repeat' (first|assumption|exact True.intro|omega|apply And.intro));done))):P:=h
theorem k135_ {P:Prop}(h:P:=by(simp only[push_cast,↓JP,Nat.reduceAdd,Nat.reduceEqDiff,Nat.reduceLT,Nat.reduceMul,Nat.reduceLeDiff,reduceCtorEq,reduceIte,↓JK,↓JF,cRDb,sRWhyB,y9_,yt_,ys_,yu_,yl_,hf];rfl)):P:=h
theorem k136_ {P:Prop}(h:P:=by(simp only[push_cast,↓JP,Nat.reduceAdd,Nat.reduceEqDiff,Nat.reduceLT,Nat.reduceMul,Nat.reduceLeDiff,reduceCtorEq,reduceIte,↓JK,↓JF,cRDg,sRWhyR,y9_,yt_,ys_,yu_,yl_,←hF];rfl)):P:=h
theorem k137_ {P:Prop}(h:P:=by(simp only[push_cast,↓JP,Nat.reduceAdd,Nat.reduceEqDiff,Nat.reduceLT,Nat.reduceMul,Nat.reduceLeDiff,reduceCtorEq,reduceIte,↓JK,↓JF,cRDg,zw_,hat,hkl,h0,inN,inR];rfl)):P:=h
theorem k138_ {P:Prop}(h:P:=by(simp only[push_cast,↓JP,Nat.reduceAdd,Nat.reduceEqDiff,Nat.reduceLT,Nat.reduceMul,Nat.reduceLeDiff,reduceCtorEq,reduceIte,↓JK,↓JF,cRDg,hkl,inN,inR];rfl)):P:=h
theorem k139_ {P:Prop}(h:P:=by(simp only[push_cast,↓JP,Nat.reduceAdd,Nat.reduceEqDiff,Nat.reduceLT,Nat.reduceMul,Nat.reduceLeDiff,reduceCtorEq,reduceIte,↓JK,↓JF,cRLg,y0_,hX,hkl,inN,inR,hre,h8,q1];rfl)):P:=h
theorem k140_ {P:Prop}(h:P:=by(simp only[push_cast,↓JP,Nat.reduceAdd,Nat.reduceEqDiff,Nat.reduceLT,Nat.reduceMul,Nat.reduceLeDiff,reduceCtorEq,reduceIte,↓JK,↓JF,cRLg,y0_,hX,hkl,inN,inR,hre,h8,h5,h6,q1,q2,q3];rfl)):P:=h
theorem k141_ {P:Prop}(h:P:=by(simp only[push_cast,↓JP,Nat.reduceAdd,Nat.reduceEqDiff,Nat.reduceLT,Nat.reduceMul,Nat.reduceLeDiff,reduceCtorEq,reduceIte,↓JK,↓JF,cRLg,y0_,hX,hkl,inN,inR,hre,h8,h5,h6,hz,q1,q2,q3];rfl)):P:=h
theorem k142_ {P:Prop}(h:P:=by refine⟨⟨by omega,fun q hq'=>?_⟩,by omega⟩;by_cases e:q=j;(rw[e];exact hq);exact heq q (by omega)):P:=h
theorem k143_ {P:Prop}(h:P:=by(simp only[push_cast,↓JP,Nat.reduceAdd,Nat.reduceEqDiff,Nat.reduceLT,Nat.reduceMul,Nat.reduceLeDiff,reduceCtorEq,reduceIte,↓JK,↓JF,cWys,sFits,y9_,yt_,ys_,he,hf];rfl)):P:=h
theorem k144_ {P:Prop}(h:P:=by(repeat' (first|exact trivial|exact rfl|assumption|apply zb_.ite|apply And.intro|intro _ |(simp only[zb_,zh_,zw_,prS,insS,sndsS,sndS,prT,HB.stable];done)))):P:=h
theorem xa_ {P:Prop}(h:P:=by(repeat' (first|exact trivial|exact rfl|assumption|apply zb_.ite|apply And.intro|intro _ |(simp only[zb_,zh_,zw_,prS,insS,sndsS,sndS,kS,kaS,ftS,y0_,prT];done)))):P:=h
theorem k146_ {P:Prop}(h:P:=by(simp only[push_cast,↓JP,Nat.reduceAdd,Nat.reduceEqDiff,Nat.reduceLT,Nat.reduceMul,Nat.reduceLeDiff,reduceCtorEq,reduceIte,↓JK,↓JF,y0_,hF,hkl,hr8,inN,inR];rfl)):P:=h
theorem k147_ {P:Prop}(h:P:=by(simp only[push_cast,↓JP,Nat.reduceAdd,Nat.reduceEqDiff,Nat.reduceLT,Nat.reduceMul,Nat.reduceLeDiff,reduceCtorEq,reduceIte,↓JK,↓JF,cTG,sChk17,sChkB,sClI,sDoomB,sDoomU,sEqIns,sEqZ,sFa17,sFactsB,sFactsR,sLeast,sLeastB,sRChk,sRChkB,sRDoom,sRDoomB,sRFactB,sRFactR,sRLeast,sRLeastB,sRWy,sTh14,sWhy17,y9_,yt_,ys_,yu_,yl_,ls_ftsS,zc_,prT,eqL_self17,inN,inR,h45,hW,←hF,hfl,hK,hD];rfl)):P:=h
theorem k148_ {P:Prop}(h:P:=by(simp only[push_cast,↓JP,Nat.reduceAdd,Nat.reduceEqDiff,Nat.reduceLT,Nat.reduceMul,Nat.reduceLeDiff,reduceCtorEq,reduceIte,↓JK,↓JF,cTG,sChk17,sChkB,sClI,sDoomB,sDoomU,sEqIns,sEqZ,sFa17,sFactsB,sFactsR,sLeast,sLeastB,sRChk,sRChkB,sRDoom,sRDoomB,sRFactB,sRFactR,sRLeast,sRLeastB,sRWy,sTh14,sWhy17,y9_,yt_,ys_,yu_,yl_,ls_ftsS,zc_,prT,eqL_self17,inN,inR,h45,hW,←hF,hfl,hK,hD,zw_,List.getD_cons_zero,List.getD_cons_succ];rfl)):P:=h
theorem k149_ {P:Prop}(h:P:=by(simp only[push_cast,↓JP,Nat.reduceAdd,Nat.reduceEqDiff,Nat.reduceLT,Nat.reduceMul,Nat.reduceLeDiff,reduceCtorEq,reduceIte,↓JK,↓JF,cTL,sChk17,sChkB,sClI,sDoomB,sDoomU,sEqIns,sEqZ,sFa17,sFactsB,sFactsR,sLeast,sLeastB,sRChk,sRChkB,sRDoom,sRDoomB,sRFactB,sRFactR,sRLeast,sRLeastB,sRWy,sTh14,sWhy17,y9_,yt_,ys_,yu_,yl_,ls_ftsS,zc_,prT,eqL_self17,inN,inR,h45,hW,←hF,hfl,hf];rfl)):P:=h
theorem k150_ {P:Prop}(h:P:=by(simp only[push_cast,↓JP,Nat.reduceAdd,Nat.reduceEqDiff,Nat.reduceLT,Nat.reduceMul,Nat.reduceLeDiff,reduceCtorEq,reduceIte,↓JK,↓JF,cTL,sChk17,sChkB,sClI,sDoomB,sDoomU,sEqIns,sEqZ,sFa17,sFactsB,sFactsR,sLeast,sLeastB,sRChk,sRChkB,sRDoom,sRDoomB,sRFactB,sRFactR,sRLeast,sRLeastB,sRWy,sTh14,sWhy17,y9_,yt_,ys_,yu_,yl_,ls_ftsS,zc_,prT,eqL_self17,inN,inR,h45,hW,←hF,hfl,hf,zw_,List.getD_cons_zero,List.getD_cons_succ];rfl)):P:=h
theorem k151_ {P:Prop}(h:P:=by(simp only[push_cast,↓JP,Nat.reduceAdd,Nat.reduceEqDiff,Nat.reduceLT,Nat.reduceMul,Nat.reduceLeDiff,reduceCtorEq,reduceIte,↓JK,↓JF,cTB,sChk17,sChkB,sClI,sDoomB,sDoomU,sEqIns,sEqZ,sFa17,sFactsB,sFactsR,sLeast,sLeastB,sRChk,sRChkB,sRDoom,sRDoomB,sRFactB,sRFactR,sRLeast,sRLeastB,sRWy,sTh14,sWhy17,y9_,yt_,ys_,yu_,yl_,ls_ftsS,zc_,prT,eqL_self17,inN,inR,h45,hW,hf];rfl)):P:=h
theorem k152_ {P:Prop}(h:P:=by(simp only[push_cast,↓JP,Nat.reduceAdd,Nat.reduceEqDiff,Nat.reduceLT,Nat.reduceMul,Nat.reduceLeDiff,reduceCtorEq,reduceIte,↓JK,↓JF,cTB,sChk17,sChkB,sClI,sDoomB,sDoomU,sEqIns,sEqZ,sFa17,sFactsB,sFactsR,sLeast,sLeastB,sRChk,sRChkB,sRDoom,sRDoomB,sRFactB,sRFactR,sRLeast,sRLeastB,sRWy,sTh14,sWhy17,y9_,yt_,ys_,yu_,yl_,ls_ftsS,zc_,prT,eqL_self17,inN,inR,h45,hW,hf,zw_,List.getD_cons_zero,List.getD_cons_succ];rfl)):P:=h
theorem k153_ {P:Prop}(h:P:=by(repeat' (first|exact trivial|exact rfl|assumption|apply zb_.ite|apply And.intro|intro _ |(simp only[zb_,zh_,zw_,prS,insS,sndsS,sndS,HB.stable];done)))):P:=h
theorem k154_ {P:Prop}(h:P:=by(first|exact True.intro |((repeat' (first|exact True.intro|assumption|exact g517 rfl rfl rfl rfl rfl|exact g917 rfl rfl rfl rfl rfl rfl rfl rfl rfl|exact g117 rfl|exact fun q _=>rfl|exact okH|exact o517 (ok_prS hPk _) (ok_prS hPk _) (ok_prS hPk _) (ok_prS hPk _) okH|exact okls fun q _=>ok_prS hQk q|apply And.intro|rfl|contradiction|omega|decide|intro _));done) |((try simp only[JS,implies_true,forall_const,yc_,yf_,kndOf]);(repeat' (first|assumption|exact True.intro|omega|apply And.intro));done))):P:=h
theorem k155_ {P:Prop}(h:P:=by(simp only[push_cast,↓JP,Nat.reduceAdd,Nat.reduceEqDiff,Nat.reduceLT,Nat.reduceMul,Nat.reduceLeDiff,reduceCtorEq,reduceIte,↓JK,cS17,List.all_cons,List.all_nil,hw2,h1];rfl)):P:=h
theorem k156_ {P:Prop}(h:P:=by(simp only[push_cast,↓JP,Nat.reduceAdd,Nat.reduceEqDiff,Nat.reduceLT,Nat.reduceMul,Nat.reduceLeDiff,reduceCtorEq,reduceIte,↓JK,cS17,List.all_cons,List.all_nil,hop2];rfl)):P:=h
theorem k157_ {P:Prop}(h:P:=by(simp only[push_cast,↓JP,Nat.reduceAdd,Nat.reduceEqDiff,Nat.reduceLT,Nat.reduceMul,Nat.reduceLeDiff,reduceCtorEq,reduceIte,↓JK,cS17,List.all_cons,List.all_nil,hk2];rfl)):P:=h
end Go.Proofs.Ytmljmabbopkpiaa.Vm
end
section
namespace Go.Proofs.Ytmljmabbopkpiaa
open Go.RowKit
structure Ins where
 op:Int
 a:Int
 b:Int
 c:Int
 n:Int
deriving DecidableEq
def Ins.cells (i:Ins):List Value:=[.int .u8 i.op,.int .u8 i.a,.int .u8 i.b,.int .u8 i.c,.int .i64 i.n]
def Ins.v (i:Ins):Value:=.agg #[.int .u8 i.op,.int .u8 i.a,.int .u8 i.b,.int .u8 i.c,.int .i64 i.n]
structure Ins.ok (i:Ins):Prop where
 op0:0≤i.op
 op1:i.op≤255
 a0:0≤i.a
 a1:i.a≤255
 b0:0≤i.b
 b1:i.b≤255
 c0:0≤i.c
 c1:i.c≤255
 n0:-9223372036854775808≤i.n
 n1:i.n≤9223372036854775807
def formC (op:Int):Nat:=
 if 32 < op∧op≤49 then 1
 else if op=1∨op=2 then 2
 else if op=3 then 3
 else if 4≤op∧op≤7 then 4
 else if op=8 then 5
 else if op=9 then 6
 else if op=10∨op=11 then 7
 else 0
def y6_:Nat→ByteArray
 | 1=>⟨#[114,114,114]⟩
 | 3=>⟨#[114,110]⟩
 | 4=>⟨#[114,114]⟩
 | 5=>⟨#[114,114,112]⟩
 | 6=>⟨#[116]⟩
 | 7=>⟨#[114,116]⟩
 | _=>⟨#[]⟩
def x0_ (k:Nat)(a b c n:Int):Prop:=
 match k with
 | 1=>a < 8∧b < 8∧c < 8∧n=0
 | 2=>a=0∧b=0∧c=0∧n=0
 | 3=>a < 8∧b=0∧c=0
 | 4=>a < 8∧b < 8∧c=0∧n=0
 | 5=>a < 8∧b < 8∧c=0∧0≤n∧n < 16
 | 6=>a=0∧b=0∧c=0∧0≤n∧n < 256
 | 7=>a < 8∧b=0∧c=0∧0≤n∧n < 256
 | _=>False
instance (k:Nat)(a b c n:Int):Decidable (x0_ k a b c n):=by
 unfold x0_;split<;>infer_instance
def oneK (k:Nat)(a b c n:Int):Int:=if x0_ k a b c n then 0 else 141
theorem oneK_pos {k:Nat}{a b c n:Int}(h:x0_ k a b c n):oneK k a b c n=0:=if_pos h
theorem y1_ {k:Nat}{a b c n:Int}(h:¬x0_ k a b c n):oneK k a b c n=141:=if_neg h
theorem ret_i64 {a b:Int}(h:a=b):Ending.returned (.int .i64 a)=.returned (.int .i64 b):=by rw[h]
def oneE (i:Ins):Int:=if formC i.op=0 then 140 else oneK (formC i.op) i.a i.b i.c i.n
section
variable {w1 W W':World}
theorem preD:Below w1.heap.size w1 w1.drew∧∀b o,b < w1.heap.size→w1.drew.cell? ⟨b,o,none⟩=w1.cell? ⟨b,o,none⟩:=⟨(Below.refl _ _).drew,fun _ _ _=>rfl⟩
theorem preR:Below w1.heap.size w1 w1∧∀b o,b < w1.heap.size→w1.cell? ⟨b,o,none⟩=w1.cell? ⟨b,o,none⟩:=⟨Below.refl _ _,fun _ _ _=>rfl⟩
theorem preE (h:Below w1.heap.size w1 W∧∀b o,b < w1.heap.size→W.cell? ⟨b,o,none⟩=w1.cell? ⟨b,o,none⟩):Below w1.heap.size w1 W.drew∧∀b o,b < w1.heap.size→W.drew.cell? ⟨b,o,none⟩=w1.cell? ⟨b,o,none⟩:=⟨h.1.drew,h.2⟩
theorem preOf (h:Below w1.heap.size w1 W):Below w1.heap.size w1 W∧∀b o,b < w1.heap.size→W.cell? ⟨b,o,none⟩=w1.cell? ⟨b,o,none⟩:=⟨h,fun b o hb=>h.cell (p:=⟨b,o,none⟩) hb⟩
theorem preA (h:Below w1.heap.size w1 W∧∀b o,b < w1.heap.size→W.cell? ⟨b,o,none⟩=w1.cell? ⟨b,o,none⟩)(x:Obj):Below w1.heap.size w1 (W.alloc x)∧∀b o,b < w1.heap.size→(W.alloc x).cell? ⟨b,o,none⟩=w1.cell? ⟨b,o,none⟩:=preOf (h.1.alloc h.1.size x)
theorem preS (h:Below w1.heap.size w1 W∧∀b o,b < w1.heap.size→W.cell? ⟨b,o,none⟩=w1.cell? ⟨b,o,none⟩){q:Addr}(hq:w1.heap.size≤q.block)(v:Value):Below w1.heap.size w1 (W.setCell q v)∧∀b o,b < w1.heap.size→(W.setCell q v).cell? ⟨b,o,none⟩=w1.cell? ⟨b,o,none⟩:=preOf (h.1.setCell hq v)
theorem preB (h:Below w1.heap.size w1 W∧∀b o,b < w1.heap.size→W.cell? ⟨b,o,none⟩=w1.cell? ⟨b,o,none⟩)(hb:Below W.heap.size W W'):Below w1.heap.size w1 W'∧∀b o,b < w1.heap.size→W'.cell? ⟨b,o,none⟩=w1.cell? ⟨b,o,none⟩:=preOf (h.1.trans (hb.mono h.1.size))
end
theorem bcell {W w1:World}(hb:Below W.heap.size W w1):(∀b o,b < W.heap.size→w1.cell? ⟨b,o,none⟩=W.cell? ⟨b,o,none⟩)∧(∀b o,b < W.heap.size→w1.frozen? ⟨b,o,none⟩=W.frozen? ⟨b,o,none⟩):=
 ⟨fun b o h=>hb.cell (p:=⟨b,o,none⟩) h,fun b o h=>hb.frozen (p:=⟨b,o,none⟩) h⟩
section
variable {P:Program}
theorem iter_setCell (W:World)(s:ByteArray)(p g i:Nat)(v:Value)(h:g < W.heap.size):(W.iter s p).setCell ⟨g,i,none⟩ v=(W.setCell ⟨g,i,none⟩ v).iter s p:=World.setCell_alloc_past _ _ _ _ h
theorem iter_cell (W:World)(s:ByteArray)(p g i:Nat)(h:g < W.heap.size):(W.iter s p).cell? ⟨g,i,none⟩=W.cell? ⟨g,i,none⟩:=World.cell?_alloc_past _ _ _ h
theorem iter_frozen (W:World)(s:ByteArray)(p g i:Nat)(h:g < W.heap.size):(W.iter s p).frozen? ⟨g,i,none⟩=W.frozen? ⟨g,i,none⟩:=World.frozen?_alloc_past _ _ _ h
theorem next_at (W:World)(s:ByteArray)(p q n:Nat)(z:Int)(ty:TypeId)(hn:n=W.heap.size)(h:p < s.size)(ha:(s[p]'h).toNat < 128)(hz:((s[p]'h).toNat:Int)=z)(hq:q=p+1) :
  (Instr.next (.pointer (some ⟨n,0,none⟩)) true ty).run P (W.iter s p)=.ok (.tuple #[.bool true,.int .i64 p,.int .i32 z]) (W.iter s q):=by
 subst hn;subst hz;subst hq;exact run_next_ascii W s p ty h ha
theorem next_end (W:World)(s:ByteArray)(p n:Nat)(ty:TypeId)(hn:n=W.heap.size)(h:¬p < s.size) :
  (Instr.next (.pointer (some ⟨n,0,none⟩)) true ty).run P (W.iter s p)=.ok (.tuple #[.bool false]) (W.iter s p):=by
 subst hn;exact run_next_end W s p ty h
end
theorem ite_okB (x a:Int)(r:Bool)(w:World):(if x=a then Result.ok r w else Result.ok false w)=Result.ok (x == a && r) w:=by
 by_cases h:x=a<;>simp[h]
theorem below_setRow {B:Nat}{a w:World}(h:Below B a w){g:Nat}(hg:B≤g)(cs:Array Value):Below B a (w.setRow g cs):=
 h.trans ⟨rfl,rfl,rfl,by simp,fun k hk=>by
  simp only[World.setRow,Array.getElem?_modify]
  rw[if_neg (by omega)]⟩
end Go.Proofs.Ytmljmabbopkpiaa
end
section
namespace Go.Proofs.Ytmljmabbopkpiaa
open Go.ChangeShapes Go.WideShapes Go.ChangeAt Go.RowKit
theorem ownKnob_:ownKnob Try.prog.godebug=none:=by kernel_rfl
theorem laid_:laidOutB Try.prog=true:=by kernel_rfl
theorem again_all {H:Type}{enc:TypeId×Value→H}{W W':World}{sp:Nat→Bool}:∀{ts:List TypeId} {vs:List Value} {ds:List (DataW H)} {ps:List MemPlace},(∀t∈ts,Try.prog.readableRec t=true∧t < Try.prog.types.size) →
  DataW.TrodAll enc Try.prog W 0 (fun _=>true) true ts vs ds ps→(∀p∈ps,W.sameAt W' p)→(∀p∈ps,sp p.block=true)→DataW.TrodAll enc Try.prog W' 0 sp true ts vs ds ps
 | [],vs,ds,ps,_,h,_,_=>by
  obtain⟨rfl,rfl,rfl⟩:=trodAll_nil h
  exact trodAll_mk0
 | t::ts,vs,ds,ps,ht,h,hsame,hs=>by
  obtain⟨v,vs',d,ds',p,p',rfl,rfl,rfl,h1,h2⟩:=trodAll_cons h
  have htt:=ht t (.head _)
  exact trodAll_cons_mk (WideElems.Trod_stays laid_ htt.1 htt.2 h1 (fun q hq=>hsame q (List.mem_append_left _ hq)) (fun q hq=>hs q (List.mem_append_left _ hq)))
   (again_all (fun u hu=>ht u (.tail _ hu)) h2 (fun q hq=>hsame q (List.mem_append_right _ hq)) (fun q hq=>hs q (List.mem_append_right _ hq)))
theorem law_post {H:Type}{enc:TypeId×Value→H}{f:Func}{s:ChangeSpec}{W W':World}{args:Array Value}{ds gs:List (DataW H)}{before:List MemPlace}
  (hW:DataW.Whole enc Try.prog f.params.toList s.vars false W args.toList ds gs before) (hv:s.vars=[]) (hr:f.resultTypes = #[4])
  (hts:∀t∈f.params.toList,Try.prog.readableRec t=true∧t < Try.prog.types.size)
  (hfn:(s.fn H (ds++gs)).results=[.lit (.bool true)]∧(s.fn H (ds++gs)).args=ds∧(s.fn H (ds++gs)).vars=[]) (hb:Below W.heap.size W W') :
  s.post enc Try.prog f false true false false W args (.bool true) W':=by
 have hlt:∀x∈before,x.block < W.heap.size:=fun x hx=>hW.lt x hx
 have hW':=hW
 obtain⟨p,q,hA,hV,rfl,hfz,hnd⟩:=hW
 rw[hv]at hV
 obtain⟨rfl,rfl⟩:=trodVars_none hV
 have hsame:∀x∈p,W.sameAt W' x:=fun x hx=>by
  have hl:=hlt x (List.mem_append_left _ hx)
  cases x with
  | cell b off=>exact hb.cell (p:=⟨b,off,none⟩) hl
  | map b=>exact hb.block b hl
 refine⟨ds,[],p++[],[],p,[],hW',?_,?_,?_,hb.frame _,fun h=>by cases h⟩
 ·rw[hr,hfn.1]
  exact trodAll_mk1 (shut_bool Try.underlying4 _)
 ·rw[hfn.2.1]
  exact again_all hts hA hsame (fun x hx=>by simpa using hlt x (List.mem_append_left _ hx))
 ·rw[hv,hfn.2.2]
  rfl
end Go.Proofs.Ytmljmabbopkpiaa
end

import Derived.Test.YtmljmabbopkpiaaC1
import Derived.Test.YtmljmabbopkpiaaC27
set_option linter.unusedSimpArgs false
set_option linter.unusedVariables false
set_option maxRecDepth 100000
set_option maxHeartbeats 4000000
section
namespace Go.Proofs.Ytmljmabbopkpiaa.Vm
open Go.RowKit
attribute [local push_cast] eqB eqBL allB prS sndsS zw_ nav_ins xs_ xr_ xq_ xp_ xo_ nav_snd xn_ xm_ xl_ yo_ yi_ yv_ yq_ yz_ yy_ iOf nav_k nav_k0 nav_k1 nav_ka nav_kai nav_ft nav_ft0 nav_ft1 isKn_kS knOf_kS isKa_kaS kaOf_kaS isFt_ftS ftOf_ftS setp_ka setp_ftk setp_ftr setp_fti evm_ins evm_snd evm_k evm_ka evm_ft
def cRGo:FuncId→Option y4_:=xz_ [(145,sRTarg),(146,sRGoes)]
theorem cRGo_ok:∀f S,cRGo f=some S→zm_ Try.prog f S:=z0_ ⟨sRTarg_ok,sRGoes_ok,trivial⟩
theorem goes_lit17 (P:List Ins)(p1:Nat)(i k:Int)(f:Ft)(hok:∀x∈P,x.ok)(h8:(P.getD i.toNat ⟨0,0,0,0,0⟩).a < 8)(hi:0≤i∧i < P.length)(hl:P.length≤256):zz_ Try.prog 113 [.sl 1 2 [] 5 0 P.length (some p1),.int .i64 i,.int .i64 k,ftS f] [.gone,.gone,.ro (.arr P.length 5 (prS P))] (.bool (goesR (P.getD i.toNat ⟨0,0,0,0,0⟩) i k f)) [.gone]:=by
 have hxo:(P.getD i.toNat ⟨0,0,0,0,0⟩).ok:=hok _ (by rw[List.getD_eq_getElem?_getD,List.getElem?_eq_getElem (by omega)];exact List.getElem_mem _)
 obtain⟨x,hx⟩:∃x,P.getD i.toNat ⟨0,0,0,0,0⟩=x:=⟨_,rfl⟩
 rw[hx]at hxo h8 ⊢
 have a0:=hxo.a0
 have ha8:x.a.toNat < 8:=by omega
 have hit:i.toNat < P.length:=by omega
 obtain⟨hi0,hi1⟩:=hi
 refine zf_ (fn:=Try.f113) 3 95 0 rfl rfl rfl rfl rfl u7_ rfl fun w0 M E hro=>?_
 repeat' (first|refine Ctl.h ?_ |((with_reducible intro hif);first |(focus (cases hif;done)) |((try simp only[JH]at hif);try exact hy_)) |((with_reducible first|apply J22 cRGo_ok za_|apply J23 fol cRGo_ok za_|apply J24);(·rfl);(· (simp only[push_cast,↓JP,Nat.reduceAdd,Nat.reduceEqDiff,Nat.reduceLT,Nat.reduceMul,Nat.reduceLeDiff,reduceCtorEq,reduceIte,↓JK,↓JF,evm_in1,cRGo,sRTarg,sRGoes,hx,inN,inR];rfl));(try kernel_rfl);(try (focus (first|exact True.intro |((repeat' (first|exact True.intro|assumption|omega|exact fun q _=>rfl|apply And.intro|rfl|intro _ |(simp only[*,Bool.not_false,Bool.and_self,Bool.not_true];done) |(simp_all;done)));done) |((try simp only[JS,implies_true,forall_const,yc_,yf_,kndOf,inN,inR]);(repeat' (first|assumption|exact True.intro|omega|apply And.intro));done)))))|fail)
 all_goals
  apply At.endsRet za_ (fn:=Try.f113) (rs:=[.tmp 8]) Anc.refl hro (lb_ rfl) rfl
  ·exact k3_
  ·exact k4_
  ·exact k5_
  ·rfl
  ·exact k6_
  ·exact k7_
  ·(intro β;simp_all [goesR,SV.den,resS]<;>(intros;exfalso;omega))
  ·exact k6_
def sRGo17:y4_:=fun args h m=>match args with
 | [v1,v2,v3,v4]=>match srcV h 5 (.tup []) v1 with
  | some (c1,n1,f1,r1)=>bif isI .i64 v2 && isI .i64 v3 && isFt v4 then some (c1∧(∀q,q < n1→xt_ (f1 q)=true)∧((∀x∈(ls zd_ n1 f1),x.ok))∧(((ls zd_ n1 f1).getD (iOf v2).toNat ⟨0,0,0,0,0⟩).a < 8)∧(0≤(iOf v2)∧(iOf v2) < (ls zd_ n1 f1).length)∧(n1≤256),.bool (goesR ((ls zd_ n1 f1).getD (iOf v2).toNat ⟨0,0,0,0,0⟩) (iOf v2) (iOf v3) (ftOf v4)),r1,[])else none
  | _=>none
 | _=>none
theorem sRGo17_ok:zm_ Try.prog 113 sRGo17:=by
 refine⟨zg_ (by kernel_rfl),fun args h m c v rd wr hs hm hc w0 M β h' w R hrd hwr hst=>?_⟩
 unfold sRGo17 at hs
 split at hs
 ·rename_i v1 v2 v3 v4
  split at hs
  ·rename_i c1 n1 f1 r1 a1
   obtain⟨hb,hs⟩:=zn_ hs
   simp only[Option.some.injEq,Prod.mk.injEq]at hs
   obtain⟨rfl,rfl,rfl,rfl⟩:=hs
   simp only[Bool.and_eq_true]at hb
   obtain⟨⟨b2,b3⟩,b4⟩:=hb
   obtain⟨k1,g1,y1,y2,y3,y4⟩:=hc
   obtain⟨A1,p1,d1,e1,t1⟩:=zp_ R a1 k1 (fun i hi=>hrd i hi) (by omega)
   refine yb_ (views:=[⟨5,(ls zd_ n1 f1).length,prS (ls zd_ n1 f1),A1,p1⟩]) (goes_lit17 (ls zd_ n1 f1) p1 (iOf v2) (iOf v3) (ftOf v4) y1 y2 y3 (by rw[zc_];exact y4)) ?_ R hm hwr ?_ ?_ ?_
   ·exact d20_
   ·intro β1 hv
    simp only[Vd,zc_,and_true]at hv
    have z1:=hv
    simp only[denL,z7_,z6_,z5_,zt_,zc_,z1,d1,zo_ b2,zo_ b3,ftOf_den b4,ftS_den]
   ·exact k6_
   ·exact k6_
  ·cases hs
 ·cases hs
theorem rright17_lit (c p l:Int):zz_ Try.prog 148 [.agg [.int .i64 c,.int .i64 p,.int .i64 l]] [.gone] (.bool (limB c p l)) [.gone]:=by
 refine zf_ (fn:=Try.f148) 1 31 0 rfl rfl rfl rfl rfl u7_ rfl fun w0 M E hro=>?_
 by_cases h0:0≤c
 ·by_cases h1:c≤1024
  ·by_cases h2:0≤p
   ·by_cases h3:p≤16
    ·by_cases h4:1≤l
     ·by_cases h5:l≤1048576
      ·have e:limB c p l=true:=by simp[limB,h0,h1,h2,h3,h4,h5]
       rw[e]
       repeat' (first|refine Ctl.h ?_ |((with_reducible intro hif);first |(focus (cases hif;done)) |((try simp only[JH]at hif);try exact hy_)) |((with_reducible first|apply J22 zl_ za_|apply J23 fol zl_ za_|apply J24);(·rfl);(· exact k14_);(try kernel_rfl);try exact xx_)|fail)
       apply At.endsRet za_ (fn:=Try.f148) (rs:=[.tmp 2]) Anc.refl hro (lb_ rfl) rfl
       ·exact k3_
       ·exact k4_
       ·exact k5_
       ·rfl
       ·exact k6_
       ·exact k7_
       ·exact fun β=>rfl
       ·exact k6_
      ·have e:limB c p l=false:=by simp[limB,h0,h1,h2,h3,h4,h5]
       rw[e]
       repeat' (first|refine Ctl.h ?_ |((with_reducible intro hif);first |(focus (cases hif;done)) |((try simp only[JH]at hif);try exact hy_)) |((with_reducible first|apply J22 zl_ za_|apply J23 fol zl_ za_|apply J24);(·rfl);(· exact k14_);(try kernel_rfl);try exact xx_)|fail)
       apply At.endsRet za_ (fn:=Try.f148) (rs:=[.tmp 2]) Anc.refl hro (lb_ rfl) rfl
       ·exact k3_
       ·exact k4_
       ·exact k5_
       ·rfl
       ·exact k6_
       ·exact k7_
       ·exact fun β=>rfl
       ·exact k6_
     ·have e:limB c p l=false:=by simp[limB,h0,h1,h2,h3,h4]
      rw[e]
      repeat' (first|refine Ctl.h ?_ |((with_reducible intro hif);first |(focus (cases hif;done)) |((try simp only[JH]at hif);try exact hy_)) |((with_reducible first|apply J22 zl_ za_|apply J23 fol zl_ za_|apply J24);(·rfl);(· exact k15_);(try kernel_rfl);try exact xx_)|fail)
      apply At.endsRet za_ (fn:=Try.f148) (rs:=[.tmp 2]) Anc.refl hro (lb_ rfl) rfl
      ·exact k3_
      ·exact k4_
      ·exact k5_
      ·rfl
      ·exact k6_
      ·exact k7_
      ·exact fun β=>rfl
      ·exact k6_
    ·have e:limB c p l=false:=by simp[limB,h0,h1,h2,h3]
     rw[e]
     repeat' (first|refine Ctl.h ?_ |((with_reducible intro hif);first |(focus (cases hif;done)) |((try simp only[JH]at hif);try exact hy_)) |((with_reducible first|apply J22 zl_ za_|apply J23 fol zl_ za_|apply J24);(·rfl);(· exact k16_);(try kernel_rfl);try exact xx_)|fail)
     apply At.endsRet za_ (fn:=Try.f148) (rs:=[.tmp 2]) Anc.refl hro (lb_ rfl) rfl
     ·exact k3_
     ·exact k4_
     ·exact k5_
     ·rfl
     ·exact k6_
     ·exact k7_
     ·exact fun β=>rfl
     ·exact k6_
   ·have e:limB c p l=false:=by simp[limB,h0,h1,h2]
    rw[e]
    repeat' (first|refine Ctl.h ?_ |((with_reducible intro hif);first |(focus (cases hif;done)) |((try simp only[JH]at hif);try exact hy_)) |((with_reducible first|apply J22 zl_ za_|apply J23 fol zl_ za_|apply J24);(·rfl);(· exact k17_);(try kernel_rfl);try exact xx_)|fail)
    apply At.endsRet za_ (fn:=Try.f148) (rs:=[.tmp 2]) Anc.refl hro (lb_ rfl) rfl
    ·exact k3_
    ·exact k4_
    ·exact k5_
    ·rfl
    ·exact k6_
    ·exact k7_
    ·exact fun β=>rfl
    ·exact k6_
  ·have e:limB c p l=false:=by simp[limB,h0,h1]
   rw[e]
   repeat' (first|refine Ctl.h ?_ |((with_reducible intro hif);first |(focus (cases hif;done)) |((try simp only[JH]at hif);try exact hy_)) |((with_reducible first|apply J22 zl_ za_|apply J23 fol zl_ za_|apply J24);(·rfl);(· exact k18_);(try kernel_rfl);try exact xx_)|fail)
   apply At.endsRet za_ (fn:=Try.f148) (rs:=[.tmp 2]) Anc.refl hro (lb_ rfl) rfl
   ·exact k3_
   ·exact k4_
   ·exact k5_
   ·rfl
   ·exact k6_
   ·exact k7_
   ·exact fun β=>rfl
   ·exact k6_
 ·have e:limB c p l=false:=by simp[limB,h0]
  rw[e]
  repeat' (first|refine Ctl.h ?_ |((with_reducible intro hif);first |(focus (cases hif;done)) |((try simp only[JH]at hif);try exact hy_)) |((with_reducible first|apply J22 zl_ za_|apply J23 fol zl_ za_|apply J24);(·rfl);(· exact k19_);(try kernel_rfl);try exact xx_)|fail)
  apply At.endsRet za_ (fn:=Try.f148) (rs:=[.tmp 2]) Anc.refl hro (lb_ rfl) rfl
  ·exact k3_
  ·exact k4_
  ·exact k5_
  ·rfl
  ·exact k6_
  ·exact k7_
  ·exact fun β=>rfl
  ·exact k6_
def sRRt17:y4_:=fun args h m=>match args with
 | [.agg [v1,v2,v3]]=>bif isI .i64 v1 && isI .i64 v2 && isI .i64 v3 then some (True,.bool (limB (iOf v1) (iOf v2) (iOf v3)),[],[])else none
 | _=>none
theorem sRRt17_ok:zm_ Try.prog 148 sRRt17:=by
 refine⟨zg_ (by kernel_rfl),fun args h m c v rd wr hs hm hc w0 M β h' w R hrd hwr hst=>?_⟩
 unfold sRRt17 at hs
 split at hs
 ·rename_i v1 v2 v3
  obtain⟨hb,hs⟩:=zn_ hs
  simp only[Option.some.injEq,Prod.mk.injEq]at hs
  obtain⟨rfl,rfl,rfl,rfl⟩:=hs
  simp only[Bool.and_eq_true]at hb
  obtain⟨⟨b1,b2⟩,b3⟩:=hb
  refine yb_ (views:=[]) (rright17_lit (iOf v1) (iOf v2) (iOf v3)) ?_ R hm hwr ?_ ?_ ?_
  ·intro x hx;cases hx
  ·exact d19_
  ·exact k6_
  ·exact k6_
 ·cases hs
end Go.Proofs.Ytmljmabbopkpiaa.Vm
end

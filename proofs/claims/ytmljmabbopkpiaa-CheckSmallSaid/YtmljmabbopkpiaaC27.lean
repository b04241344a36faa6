import Derived.Test.YtmljmabbopkpiaaC1
import Derived.Test.YtmljmabbopkpiaaC13
import Derived.Test.YtmljmabbopkpiaaC16
import Derived.Test.YtmljmabbopkpiaaC23
import Derived.Test.YtmljmabbopkpiaaC26
set_option linter.unusedSimpArgs false
set_option linter.unusedVariables false
set_option maxRecDepth 100000
set_option maxHeartbeats 4000000
section
namespace Go.Proofs.Ytmljmabbopkpiaa.Vm
open Go.RowKit
attribute [local push_cast] eqB eqBL allB prS sndsS zw_ nav_ins xs_ xr_ xq_ xp_ xo_ nav_snd xn_ xm_ xl_ yo_ yi_ yv_ yq_ yz_ yy_ iOf nav_k nav_k0 nav_k1 nav_ka nav_kai nav_ft nav_ft0 nav_ft1 isKn_kS knOf_kS isKa_kaS kaOf_kaS isFt_ftS ftOf_ftS setp_ka setp_ftk setp_ftr setp_fti evm_ins evm_snd evm_k evm_ka evm_ft inN inR
def knDen (k:Kn):Value:=.agg #[.bool k.is_,.int .i64 k.n]
theorem isKn_agg {v:SV}(h:isKn v=true):v.isAgg=true:=by
 unfold isKn at h
 split at h
 ·rfl
 ·cases h
theorem knOf_den {β : Env}{v:SV}(h:isKn v=true):v.den β = knDen (knOf v):=by
 rw[den_agg (isKn_agg h),knOf_cl h];rfl
theorem kS_den {β : Env}(k:Kn):(kS k).den β = knDen k:=knOf_den (isKn_kS k)
theorem ft_den_raw {β : Env}{c:Bool}{F:Nat→SV}{r:Nat→Kn}(h:∀q,q < 8→(F q).cl β =(kS (r q)).cl β):(SV.agg [.bool c,.arr 8 2 F]).den β =(ftS ⟨c,r⟩).den β:=by
 rw[den_agg rfl,den_agg (v:=ftS ⟨c,r⟩) rfl]
 show Value.agg ((SV.agg [.bool c,.arr 8 2 F]).cl β).toArray=Value.agg ((SV.agg [.bool c,kaS r]).cl β).toArray
 rw[cl_agg,cl_agg,yk_,yk_,clL_nil,yk_,yk_,clL_nil]
 unfold kaS
 rw[cl_arr,cl_arr,List.flatMap_def,List.flatMap_def]
 have e:List.map (fun i=>fit 2 ((F i).cl β)) (List.range 8)=List.map (fun i=>fit 2 ((kS (r i)).cl β)) (List.range 8):=List.map_congr_left fun q hq=>by rw[h q (List.mem_range.1 hq)]
 rw[e]
theorem x3_ {β : Env}{c:Bool}{r:Nat→Kn}{m:Nat}{u:SV}{y:Kn}(h:u.cl β =(kS y).cl β):(SV.agg [.bool c,.arr 8 2 fun j=>SV.ite (decide (j=m)) u (kS (r j))]).den β =(ftS ⟨c,setK r m y⟩).den β:=ft_den_raw fun q _=>by
 rw[x1_]
 unfold setK
 by_cases q2:q=m
 ·simp only[q2,decide_true,cond_true,if_pos];exact h
 ·simp only[q2,decide_false,cond_false,if_neg,not_false_eq_true]
theorem both_lit (a b:Kn):zz_ Try.prog 147 [kS a,kS b] [.gone] (kS (bothK a b)) [.gone]:=by
 cases ha:a.is_
 ·rw[show bothK a b=K0 from if_neg (fun h=>by rw[ha]at h;cases h.1)]
  refine zf_ (fn:=Try.f147) 1 20 0 rfl rfl rfl rfl rfl u7_ rfl fun w0 M E hro=>?_
  repeat' (first|refine Ctl.h ?_ |((with_reducible intro hif);first |(focus (cases hif;done)) |((try simp only[JH]at hif);try exact hy_)) |((with_reducible first|apply J22 zl_ za_|apply J23 fol zl_ za_|apply J24);(·rfl);(· (simp only[push_cast,↓JP,Nat.reduceAdd,Nat.reduceEqDiff,Nat.reduceLT,Nat.reduceMul,Nat.reduceLeDiff,reduceCtorEq,reduceIte,↓JK,↓JF,ha];rfl));(try kernel_rfl);try exact k9_)|fail)
  apply At.endsRet za_ (fn:=Try.f147) (rs:=[.cell 4 209]) Anc.refl hro (lb_ rfl) rfl
  ·exact k3_
  ·exact k4_
  ·exact k5_
  ·rfl
  ·exact k6_
  ·exact k7_
  ·exact fun β=>rfl
  ·exact k6_
 cases hb:b.is_
 ·rw[show bothK a b=K0 from if_neg (fun h=>by rw[hb]at h;cases h.2.1)]
  refine zf_ (fn:=Try.f147) 1 20 0 rfl rfl rfl rfl rfl u7_ rfl fun w0 M E hro=>?_
  repeat' (first|refine Ctl.h ?_ |((with_reducible intro hif);first |(focus (cases hif;done)) |((try simp only[JH]at hif);try exact hy_)) |((with_reducible first|apply J22 zl_ za_|apply J23 fol zl_ za_|apply J24);(·rfl);(· (simp only[push_cast,↓JP,Nat.reduceAdd,Nat.reduceEqDiff,Nat.reduceLT,Nat.reduceMul,Nat.reduceLeDiff,reduceCtorEq,reduceIte,↓JK,↓JF,ha,hb];rfl));(try kernel_rfl);try exact k9_)|fail)
  apply At.endsRet za_ (fn:=Try.f147) (rs:=[.cell 4 209]) Anc.refl hro (lb_ rfl) rfl
  ·exact k3_
  ·exact k4_
  ·exact k5_
  ·rfl
  ·exact k6_
  ·exact k7_
  ·exact fun β=>rfl
  ·exact k6_
 by_cases hn:a.n=b.n
 ·rw[show bothK a b=a from if_pos ⟨ha,hb,hn⟩]
  refine zf_ (fn:=Try.f147) 1 20 0 rfl rfl rfl rfl rfl u7_ rfl fun w0 M E hro=>?_
  repeat' (first|refine Ctl.h ?_ |((with_reducible intro hif);first |(focus (cases hif;done)) |((try simp only[JH]at hif);try exact hy_)) |((with_reducible first|apply J22 zl_ za_|apply J23 fol zl_ za_|apply J24);(·rfl);(· exact k94_);(try kernel_rfl);try exact k9_)|fail)
  apply At.endsRet za_ (fn:=Try.f147) (rs:=[.cell 4 209]) Anc.refl hro (lb_ rfl) rfl
  ·exact k3_
  ·exact k4_
  ·exact k5_
  ·rfl
  ·exact k6_
  ·exact k7_
  ·exact fun β=>rfl
  ·exact k6_
 ·rw[show bothK a b=K0 from if_neg (fun h=>hn h.2.2)]
  refine zf_ (fn:=Try.f147) 1 20 0 rfl rfl rfl rfl rfl u7_ rfl fun w0 M E hro=>?_
  repeat' (first|refine Ctl.h ?_ |((with_reducible intro hif);first |(focus (cases hif;done)) |((try simp only[JH]at hif);try exact hy_)) |((with_reducible first|apply J22 zl_ za_|apply J23 fol zl_ za_|apply J24);(·rfl);(· exact k94_);(try kernel_rfl);try exact k9_)|fail)
  apply At.endsRet za_ (fn:=Try.f147) (rs:=[.cell 4 209]) Anc.refl hro (lb_ rfl) rfl
  ·exact k3_
  ·exact k4_
  ·exact k5_
  ·rfl
  ·exact k6_
  ·exact k7_
  ·exact fun β=>rfl
  ·exact k6_
def sRBoth:y4_:=fun args h m=>match args with
 | [v1,v2]=>bif isKn v1 && isKn v2 then some (True,kS (bothK (knOf v1) (knOf v2)),[],[])else none
 | _=>none
theorem sRBoth_ok:zm_ Try.prog 147 sRBoth:=by
 refine⟨zg_ (by kernel_rfl),fun args h m c v rd wr hs hm hc w0 M β h' w R hrd hwr hst=>?_⟩
 unfold sRBoth at hs
 split at hs
 ·rename_i v1 v2
  obtain⟨hb,hs⟩:=zn_ hs
  simp only[Option.some.injEq,Prod.mk.injEq]at hs
  obtain⟨rfl,rfl,rfl,rfl⟩:=hs
  simp only[Bool.and_eq_true]at hb
  obtain⟨b1,b2⟩:=hb
  refine yb_ (views:=[]) (both_lit (knOf v1) (knOf v2)) ?_ R hm hwr ?_ ?_ ?_
  ·intro x hx;cases hx
  ·intro β1 hv
   simp only[denL,z7_,z6_,z5_,zt_,zc_,knOf_den b1,knOf_den b2,kS_den]
  ·exact k6_
  ·exact k6_
 ·cases hs
def cRAf:FuncId→Option y4_:=xz_ [(131,sRAp)]
theorem yg_:∀f S,cRAf f=some S→zm_ Try.prog f S:=z0_ ⟨sRAp_ok,trivial⟩
theorem f0_den {β : Env}:(SV.agg [.bool false,.arr 8 2 fun _=>.agg [.bool false,.nat .i64 0]]).den β =(ftS F0).den β:=ft_den_raw fun q _=>rfl
theorem after_lit (i:Ins)(f:Ft)(hi:i.ok)(ha:i.a < 8)(hb:i.b < 8)(hc:i.c < 8)(hF:∀r,R64 (f.regs r).n):zz_ Try.prog 115 [insS i,ftS f] [.gone] (ftS (yn_ i f)) [.gone]:=by
 obtain⟨o0,o1,a0,a1,b0,b1,c0,c1,n0,n1⟩:=hi
 have han:i.a.toNat < 8:=by omega
 have hbn:i.b.toNat < 8:=by omega
 have hcn:i.c.toNat < 8:=by omega
 obtain⟨fb0,fb1⟩:=hF i.b.toNat
 obtain⟨fc0,fc1⟩:=hF i.c.toNat
 cases hre:f.reached
 ·have e:yn_ i f=F0:=by unfold yn_;simp[hre]
  rw[e]
  refine zf_ (fn:=Try.f115) 1 119 0 rfl rfl rfl rfl rfl u7_ rfl fun w0 M E hro=>?_
  repeat' (first|refine Ctl.h ?_ |((with_reducible intro hif);first |(focus (cases hif;done)) |((try simp only[JH]at hif);try exact hy_)) |((with_reducible first|apply J22 yg_ za_|apply J23 fol yg_ za_|apply J24);(·rfl);(· (simp only[push_cast,↓JP,Nat.reduceAdd,Nat.reduceEqDiff,Nat.reduceLT,Nat.reduceMul,Nat.reduceLeDiff,reduceCtorEq,reduceIte,↓JK,↓JF,cRAf,sRAp,xk_,hre];rfl));(try kernel_rfl);try exact k9_)|fail)
  apply At.endsRet za_ (fn:=Try.f115) (rs:=[.cell 4 212]) Anc.refl hro (lb_ rfl) rfl
  ·exact k3_
  ·exact k4_
  ·exact k5_
  ·rfl
  ·exact k6_
  ·exact k7_
  ·exact fun β=>f0_den
  ·exact k6_
 by_cases h1:i.op=1
 ·have e:yn_ i f=F0:=by unfold yn_;simp[hre,h1]
  rw[e]
  refine zf_ (fn:=Try.f115) 1 119 0 rfl rfl rfl rfl rfl u7_ rfl fun w0 M E hro=>?_
  repeat' (first|refine Ctl.h ?_ |((with_reducible intro hif);first |(focus (cases hif;done)) |((try simp only[JH]at hif);try exact hy_)) |((with_reducible first|apply J22 yg_ za_|apply J23 fol yg_ za_|apply J24);(·rfl);(· (simp only[push_cast,↓JP,Nat.reduceAdd,Nat.reduceEqDiff,Nat.reduceLT,Nat.reduceMul,Nat.reduceLeDiff,reduceCtorEq,reduceIte,↓JK,↓JF,cRAf,sRAp,xk_,hre,h1];rfl));(try kernel_rfl);try exact k9_)|fail)
  apply At.endsRet za_ (fn:=Try.f115) (rs:=[.cell 4 212]) Anc.refl hro (lb_ rfl) rfl
  ·exact k3_
  ·exact k4_
  ·exact k5_
  ·rfl
  ·exact k6_
  ·exact k7_
  ·exact fun β=>f0_den
  ·exact k6_
 by_cases h2:i.op=2
 ·have e:yn_ i f=F0:=by unfold yn_;simp[hre,h2]
  rw[e]
  refine zf_ (fn:=Try.f115) 1 119 0 rfl rfl rfl rfl rfl u7_ rfl fun w0 M E hro=>?_
  repeat' (first|refine Ctl.h ?_ |((with_reducible intro hif);first |(focus (cases hif;done)) |((try simp only[JH]at hif);try exact hy_)) |((with_reducible first|apply J22 yg_ za_|apply J23 fol yg_ za_|apply J24);(·rfl);(· (simp only[push_cast,↓JP,Nat.reduceAdd,Nat.reduceEqDiff,Nat.reduceLT,Nat.reduceMul,Nat.reduceLeDiff,reduceCtorEq,reduceIte,↓JK,↓JF,cRAf,sRAp,xk_,hre,h2];rfl));(try kernel_rfl);try exact k9_)|fail)
  apply At.endsRet za_ (fn:=Try.f115) (rs:=[.cell 4 212]) Anc.refl hro (lb_ rfl) rfl
  ·exact k3_
  ·exact k4_
  ·exact k5_
  ·rfl
  ·exact k6_
  ·exact k7_
  ·exact fun β=>f0_den
  ·exact k6_
 by_cases h3:i.op=3
 ·have e:yn_ i f=⟨true,setK f.regs i.a.toNat ⟨true,i.n⟩⟩:=by unfold yn_;simp[hre,h3]
  rw[e]
  refine zf_ (fn:=Try.f115) 1 119 0 rfl rfl rfl rfl rfl u7_ rfl fun w0 M E hro=>?_
  repeat' (first|refine Ctl.h ?_ |((with_reducible intro hif);first |(focus (cases hif;done)) |((try simp only[JH]at hif);try exact hy_)) |((with_reducible first|apply J22 yg_ za_|apply J23 fol yg_ za_|apply J24);(·rfl);(· (simp only[push_cast,↓JP,Nat.reduceAdd,Nat.reduceEqDiff,Nat.reduceLT,Nat.reduceMul,Nat.reduceLeDiff,reduceCtorEq,reduceIte,↓JK,↓JF,cRAf,sRAp,xk_,hre,h3];rfl));(try kernel_rfl);try exact k9_)|fail)
  apply At.endsRet za_ (fn:=Try.f115) (rs:=[.cell 4 212]) Anc.refl hro (lb_ rfl) rfl
  ·exact k3_
  ·exact k4_
  ·exact k5_
  ·rfl
  ·exact k6_
  ·exact k7_
  ·exact fun β=>x3_ (rfl)
  ·exact k6_
 by_cases h4:i.op=4
 ·have e:yn_ i f=⟨true,setK f.regs i.a.toNat (f.regs i.b.toNat)⟩:=by unfold yn_;simp[hre,h4]
  rw[e]
  refine zf_ (fn:=Try.f115) 1 119 0 rfl rfl rfl rfl rfl u7_ rfl fun w0 M E hro=>?_
  repeat' (first|refine Ctl.h ?_ |((with_reducible intro hif);first |(focus (cases hif;done)) |((try simp only[JH]at hif);try exact hy_)) |((with_reducible first|apply J22 yg_ za_|apply J23 fol yg_ za_|apply J24);(·rfl);(· (simp only[push_cast,↓JP,Nat.reduceAdd,Nat.reduceEqDiff,Nat.reduceLT,Nat.reduceMul,Nat.reduceLeDiff,reduceCtorEq,reduceIte,↓JK,↓JF,cRAf,sRAp,xk_,hre,h4];rfl));(try kernel_rfl);try exact k9_)|fail)
  apply At.endsRet za_ (fn:=Try.f115) (rs:=[.cell 4 212]) Anc.refl hro (lb_ rfl) rfl
  ·exact k3_
  ·exact k4_
  ·exact k5_
  ·rfl
  ·exact k6_
  ·exact k7_
  ·exact fun β=>rfl
  ·exact k6_
 by_cases h5:i.op=5
 ·have e:yn_ i f=⟨true,setK f.regs i.a.toNat K0⟩:=by unfold yn_;simp[hre,h5]
  rw[e]
  refine zf_ (fn:=Try.f115) 1 119 0 rfl rfl rfl rfl rfl u7_ rfl fun w0 M E hro=>?_
  repeat' (first|refine Ctl.h ?_ |((with_reducible intro hif);first |(focus (cases hif;done)) |((try simp only[JH]at hif);try exact hy_)) |((with_reducible first|apply J22 yg_ za_|apply J23 fol yg_ za_|apply J24);(·rfl);(· (simp only[push_cast,↓JP,Nat.reduceAdd,Nat.reduceEqDiff,Nat.reduceLT,Nat.reduceMul,Nat.reduceLeDiff,reduceCtorEq,reduceIte,↓JK,↓JF,cRAf,sRAp,xk_,hre,h5];rfl));(try kernel_rfl);try exact k9_)|fail)
  apply At.endsRet za_ (fn:=Try.f115) (rs:=[.cell 4 212]) Anc.refl hro (lb_ rfl) rfl
  ·exact k3_
  ·exact k4_
  ·exact k5_
  ·rfl
  ·exact k6_
  ·exact k7_
  ·exact fun β=>x3_ (rfl)
  ·exact k6_
 by_cases h7:i.op=7
 ·have e:yn_ i f=⟨true,setK f.regs i.a.toNat K0⟩:=by unfold yn_;simp[hre,h7]
  rw[e]
  refine zf_ (fn:=Try.f115) 1 119 0 rfl rfl rfl rfl rfl u7_ rfl fun w0 M E hro=>?_
  repeat' (first|refine Ctl.h ?_ |((with_reducible intro hif);first |(focus (cases hif;done)) |((try simp only[JH]at hif);try exact hy_)) |((with_reducible first|apply J22 yg_ za_|apply J23 fol yg_ za_|apply J24);(·rfl);(· (simp only[push_cast,↓JP,Nat.reduceAdd,Nat.reduceEqDiff,Nat.reduceLT,Nat.reduceMul,Nat.reduceLeDiff,reduceCtorEq,reduceIte,↓JK,↓JF,cRAf,sRAp,xk_,hre,h7];rfl));(try kernel_rfl);try exact k9_)|fail)
  apply At.endsRet za_ (fn:=Try.f115) (rs:=[.cell 4 212]) Anc.refl hro (lb_ rfl) rfl
  ·exact k3_
  ·exact k4_
  ·exact k5_
  ·rfl
  ·exact k6_
  ·exact k7_
  ·exact fun β=>x3_ (rfl)
  ·exact k6_
 by_cases h32:32 < i.op
 case neg=>
  have e:yn_ i f=f:=by unfold yn_;rw[if_neg (by rw[hre];simp;omega),if_neg h3,if_neg h4,if_neg (by omega),if_neg h32]
  rw[e]
  refine zf_ (fn:=Try.f115) 1 119 0 rfl rfl rfl rfl rfl u7_ rfl fun w0 M E hro=>?_
  repeat' (first|refine Ctl.h ?_ |((with_reducible intro hif);first |(focus (cases hif;done)) |((try simp only[JH]at hif);try exact hy_)) |((with_reducible first|apply J22 yg_ za_|apply J23 fol yg_ za_|apply J24);(·rfl);(· (simp only[push_cast,↓JP,Nat.reduceAdd,Nat.reduceEqDiff,Nat.reduceLT,Nat.reduceMul,Nat.reduceLeDiff,reduceCtorEq,reduceIte,↓JK,↓JF,cRAf,sRAp,xk_,hre,h1,h2,h3,h4,h5,h7,h32];rfl));(try kernel_rfl);try exact k9_)|fail)
  apply At.endsRet za_ (fn:=Try.f115) (rs:=[.cell 4 212]) Anc.refl hro (lb_ rfl) rfl
  ·exact k3_
  ·exact k4_
  ·exact k5_
  ·rfl
  ·exact k6_
  ·exact k7_
  ·exact fun β=>rfl
  ·exact k6_
 have q0:yn_ i f=if divB i.op=true∧f.regs i.c.toNat=⟨true,0⟩ then F0 else if (f.regs i.b.toNat).is_=false∨(f.regs i.c.toNat).is_=false then ⟨f.reached,setK f.regs i.a.toNat K0⟩ else if z9_ (i.op - 32) (f.regs i.c.toNat).n≠0 then F0 else ⟨f.reached,setK f.regs i.a.toNat ⟨true,ye_ (i.op - 32) (f.regs i.b.toNat).n (f.regs i.c.toNat).n⟩⟩:=by
  unfold yn_;rw[if_neg (by rw[hre];simp;omega),if_neg h3,if_neg h4,if_neg (by omega),if_pos h32]
 rw[q0]
 have hdv:divB i.op=true↔36≤i.op∧i.op≤38:=by unfold divB;simp;omega
 clear q0
 by_cases hd:divB i.op=true
 case neg=>
  have hd2:¬(36≤i.op∧i.op≤38):=fun h=>hd (hdv.2 h)
  rw[if_neg (fun h=>hd h.1)]
  by_cases d1:36≤i.op
  ·have d2:¬i.op≤38:=fun h=>hd2 ⟨d1,h⟩
   cases hb1:(f.regs i.b.toNat).is_
   ·rw[if_pos (.inl rfl)]
    rw[hre]
    refine zf_ (fn:=Try.f115) 1 119 0 rfl rfl rfl rfl rfl u7_ rfl fun w0 M E hro=>?_
    repeat' (first|refine Ctl.h ?_ |((with_reducible intro hif);first |(focus (cases hif;done)) |((try simp only[JH]at hif);try exact hy_)) |((with_reducible first|apply J22 yg_ za_|apply J23 fol yg_ za_|apply J24);(·rfl);(· (simp only[push_cast,↓JP,Nat.reduceAdd,Nat.reduceEqDiff,Nat.reduceLT,Nat.reduceMul,Nat.reduceLeDiff,reduceCtorEq,reduceIte,↓JK,↓JF,cRAf,sRAp,xk_,hre,h1,h2,h3,h4,h5,h7,h32,d1,d2,hb1];rfl));(try kernel_rfl);try exact k9_)|fail)
    apply At.endsRet za_ (fn:=Try.f115) (rs:=[.cell 4 212]) Anc.refl hro (lb_ rfl) rfl
    ·exact k3_
    ·exact k4_
    ·exact k5_
    ·rfl
    ·exact k6_
    ·exact k7_
    ·exact fun β=>x3_ (rfl)
    ·exact k6_
   cases hc1:(f.regs i.c.toNat).is_
   ·rw[if_pos (.inr rfl)]
    rw[hre]
    refine zf_ (fn:=Try.f115) 1 119 0 rfl rfl rfl rfl rfl u7_ rfl fun w0 M E hro=>?_
    repeat' (first|refine Ctl.h ?_ |((with_reducible intro hif);first |(focus (cases hif;done)) |((try simp only[JH]at hif);try exact hy_)) |((with_reducible first|apply J22 yg_ za_|apply J23 fol yg_ za_|apply J24);(·rfl);(· (simp only[push_cast,↓JP,Nat.reduceAdd,Nat.reduceEqDiff,Nat.reduceLT,Nat.reduceMul,Nat.reduceLeDiff,reduceCtorEq,reduceIte,↓JK,↓JF,cRAf,sRAp,xk_,hre,h1,h2,h3,h4,h5,h7,h32,d1,d2,hb1,hc1];rfl));(try kernel_rfl);try exact k9_)|fail)
    apply At.endsRet za_ (fn:=Try.f115) (rs:=[.cell 4 212]) Anc.refl hro (lb_ rfl) rfl
    ·exact k3_
    ·exact k4_
    ·exact k5_
    ·rfl
    ·exact k6_
    ·exact k7_
    ·exact fun β=>x3_ (rfl)
    ·exact k6_
   rw[if_neg (by simp)]
   by_cases hw:z9_ (i.op - 32) (f.regs i.c.toNat).n=0
   ·rw[if_neg (fun h=>h hw)]
    rw[hre]
    refine zf_ (fn:=Try.f115) 1 119 0 rfl rfl rfl rfl rfl u7_ rfl fun w0 M E hro=>?_
    repeat' (first|refine Ctl.h ?_ |((with_reducible intro hif);first |(focus (cases hif;done)) |((try simp only[JH]at hif);try exact hy_)) |((with_reducible first|apply J22 yg_ za_|apply J23 fol yg_ za_|apply J24);(·rfl);(· exact k95_);(try kernel_rfl);try exact k9_)|fail)
    apply At.endsRet za_ (fn:=Try.f115) (rs:=[.cell 4 212]) Anc.refl hro (lb_ rfl) rfl
    ·exact k3_
    ·exact k4_
    ·exact k5_
    ·rfl
    ·exact k6_
    ·exact k7_
    ·exact fun β=>x3_ (rfl)
    ·exact k6_
   ·rw[if_pos hw]
    refine zf_ (fn:=Try.f115) 1 119 0 rfl rfl rfl rfl rfl u7_ rfl fun w0 M E hro=>?_
    repeat' (first|refine Ctl.h ?_ |((with_reducible intro hif);first |(focus (cases hif;done)) |((try simp only[JH]at hif);try exact hy_)) |((with_reducible first|apply J22 yg_ za_|apply J23 fol yg_ za_|apply J24);(·rfl);(· exact k95_);(try kernel_rfl);try exact k9_)|fail)
    apply At.endsRet za_ (fn:=Try.f115) (rs:=[.cell 4 212]) Anc.refl hro (lb_ rfl) rfl
    ·exact k3_
    ·exact k4_
    ·exact k5_
    ·rfl
    ·exact k6_
    ·exact k7_
    ·exact fun β=>f0_den
    ·exact k6_
  ·cases hb1:(f.regs i.b.toNat).is_
   ·rw[if_pos (.inl rfl)]
    rw[hre]
    refine zf_ (fn:=Try.f115) 1 119 0 rfl rfl rfl rfl rfl u7_ rfl fun w0 M E hro=>?_
    repeat' (first|refine Ctl.h ?_ |((with_reducible intro hif);first |(focus (cases hif;done)) |((try simp only[JH]at hif);try exact hy_)) |((with_reducible first|apply J22 yg_ za_|apply J23 fol yg_ za_|apply J24);(·rfl);(· (simp only[push_cast,↓JP,Nat.reduceAdd,Nat.reduceEqDiff,Nat.reduceLT,Nat.reduceMul,Nat.reduceLeDiff,reduceCtorEq,reduceIte,↓JK,↓JF,cRAf,sRAp,xk_,hre,h1,h2,h3,h4,h5,h7,h32,d1,hb1];rfl));(try kernel_rfl);try exact k9_)|fail)
    apply At.endsRet za_ (fn:=Try.f115) (rs:=[.cell 4 212]) Anc.refl hro (lb_ rfl) rfl
    ·exact k3_
    ·exact k4_
    ·exact k5_
    ·rfl
    ·exact k6_
    ·exact k7_
    ·exact fun β=>x3_ (rfl)
    ·exact k6_
   cases hc1:(f.regs i.c.toNat).is_
   ·rw[if_pos (.inr rfl)]
    rw[hre]
    refine zf_ (fn:=Try.f115) 1 119 0 rfl rfl rfl rfl rfl u7_ rfl fun w0 M E hro=>?_
    repeat' (first|refine Ctl.h ?_ |((with_reducible intro hif);first |(focus (cases hif;done)) |((try simp only[JH]at hif);try exact hy_)) |((with_reducible first|apply J22 yg_ za_|apply J23 fol yg_ za_|apply J24);(·rfl);(· (simp only[push_cast,↓JP,Nat.reduceAdd,Nat.reduceEqDiff,Nat.reduceLT,Nat.reduceMul,Nat.reduceLeDiff,reduceCtorEq,reduceIte,↓JK,↓JF,cRAf,sRAp,xk_,hre,h1,h2,h3,h4,h5,h7,h32,d1,hb1,hc1];rfl));(try kernel_rfl);try exact k9_)|fail)
    apply At.endsRet za_ (fn:=Try.f115) (rs:=[.cell 4 212]) Anc.refl hro (lb_ rfl) rfl
    ·exact k3_
    ·exact k4_
    ·exact k5_
    ·rfl
    ·exact k6_
    ·exact k7_
    ·exact fun β=>x3_ (rfl)
    ·exact k6_
   rw[if_neg (by simp)]
   by_cases hw:z9_ (i.op - 32) (f.regs i.c.toNat).n=0
   ·rw[if_neg (fun h=>h hw)]
    rw[hre]
    refine zf_ (fn:=Try.f115) 1 119 0 rfl rfl rfl rfl rfl u7_ rfl fun w0 M E hro=>?_
    repeat' (first|refine Ctl.h ?_ |((with_reducible intro hif);first |(focus (cases hif;done)) |((try simp only[JH]at hif);try exact hy_)) |((with_reducible first|apply J22 yg_ za_|apply J23 fol yg_ za_|apply J24);(·rfl);(· exact k96_);(try kernel_rfl);try exact k9_)|fail)
    apply At.endsRet za_ (fn:=Try.f115) (rs:=[.cell 4 212]) Anc.refl hro (lb_ rfl) rfl
    ·exact k3_
    ·exact k4_
    ·exact k5_
    ·rfl
    ·exact k6_
    ·exact k7_
    ·exact fun β=>x3_ (rfl)
    ·exact k6_
   ·rw[if_pos hw]
    refine zf_ (fn:=Try.f115) 1 119 0 rfl rfl rfl rfl rfl u7_ rfl fun w0 M E hro=>?_
    repeat' (first|refine Ctl.h ?_ |((with_reducible intro hif);first |(focus (cases hif;done)) |((try simp only[JH]at hif);try exact hy_)) |((with_reducible first|apply J22 yg_ za_|apply J23 fol yg_ za_|apply J24);(·rfl);(· exact k96_);(try kernel_rfl);try exact k9_)|fail)
    apply At.endsRet za_ (fn:=Try.f115) (rs:=[.cell 4 212]) Anc.refl hro (lb_ rfl) rfl
    ·exact k3_
    ·exact k4_
    ·exact k5_
    ·rfl
    ·exact k6_
    ·exact k7_
    ·exact fun β=>f0_den
    ·exact k6_
 obtain⟨d1,d2⟩:=hdv.1 hd
 by_cases hcz:f.regs i.c.toNat=⟨true,0⟩
 ·rw[if_pos ⟨hd,hcz⟩]
  refine zf_ (fn:=Try.f115) 1 119 0 rfl rfl rfl rfl rfl u7_ rfl fun w0 M E hro=>?_
  repeat' (first|refine Ctl.h ?_ |((with_reducible intro hif);first |(focus (cases hif;done)) |((try simp only[JH]at hif);try exact hy_)) |((with_reducible first|apply J22 yg_ za_|apply J23 fol yg_ za_|apply J24);(·rfl);(· (simp only[push_cast,↓JP,Nat.reduceAdd,Nat.reduceEqDiff,Nat.reduceLT,Nat.reduceMul,Nat.reduceLeDiff,reduceCtorEq,reduceIte,↓JK,↓JF,cRAf,sRAp,xk_,hre,h1,h2,h3,h4,h5,h7,h32,d1,d2,hcz];rfl));(try kernel_rfl);try exact k9_)|fail)
  apply At.endsRet za_ (fn:=Try.f115) (rs:=[.cell 4 212]) Anc.refl hro (lb_ rfl) rfl
  ·exact k3_
  ·exact k4_
  ·exact k5_
  ·rfl
  ·exact k6_
  ·exact k7_
  ·exact fun β=>f0_den
  ·exact k6_
 rw[if_neg (fun h=>hcz h.2)]
 have hnz:(f.regs i.c.toNat).is_=true→¬(f.regs i.c.toNat).n=0:=fun h1 h2=>hcz (by rw[←h1,←h2])
 cases hc1:(f.regs i.c.toNat).is_
 ·rw[if_pos (.inr rfl),hre]
  refine zf_ (fn:=Try.f115) 1 119 0 rfl rfl rfl rfl rfl u7_ rfl fun w0 M E hro=>?_
  cases hb1:(f.regs i.b.toNat).is_
  all_goals
   repeat' (first|refine Ctl.h ?_ |((with_reducible intro hif);first |(focus (cases hif;done)) |((try simp only[JH]at hif);try exact hy_)) |((with_reducible first|apply J22 yg_ za_|apply J23 fol yg_ za_|apply J24);(·rfl);(· (simp only[push_cast,↓JP,Nat.reduceAdd,Nat.reduceEqDiff,Nat.reduceLT,Nat.reduceMul,Nat.reduceLeDiff,reduceCtorEq,reduceIte,↓JK,↓JF,cRAf,sRAp,xk_,hre,h1,h2,h3,h4,h5,h7,h32,d1,d2,hc1,hb1];rfl));(try kernel_rfl);try exact k9_)|fail)
   apply At.endsRet za_ (fn:=Try.f115) (rs:=[.cell 4 212]) Anc.refl hro (lb_ rfl) rfl
   ·exact k3_
   ·exact k4_
   ·exact k5_
   ·rfl
   ·exact k6_
   ·exact k7_
   ·exact fun β=>x3_ (rfl)
   ·exact k6_
 have hcn0:=hnz hc1
 cases hb1:(f.regs i.b.toNat).is_
 ·rw[if_pos (.inl rfl),hre]
  refine zf_ (fn:=Try.f115) 1 119 0 rfl rfl rfl rfl rfl u7_ rfl fun w0 M E hro=>?_
  repeat' (first|refine Ctl.h ?_ |((with_reducible intro hif);first |(focus (cases hif;done)) |((try simp only[JH]at hif);try exact hy_)) |((with_reducible first|apply J22 yg_ za_|apply J23 fol yg_ za_|apply J24);(·rfl);(· (simp only[push_cast,↓JP,Nat.reduceAdd,Nat.reduceEqDiff,Nat.reduceLT,Nat.reduceMul,Nat.reduceLeDiff,reduceCtorEq,reduceIte,↓JK,↓JF,cRAf,sRAp,xk_,hre,h1,h2,h3,h4,h5,h7,h32,d1,d2,hc1,hcn0,hb1];rfl));(try kernel_rfl);try exact k9_)|fail)
  apply At.endsRet za_ (fn:=Try.f115) (rs:=[.cell 4 212]) Anc.refl hro (lb_ rfl) rfl
  ·exact k3_
  ·exact k4_
  ·exact k5_
  ·rfl
  ·exact k6_
  ·exact k7_
  ·exact fun β=>x3_ (rfl)
  ·exact k6_
 rw[if_neg (by simp)]
 by_cases hw:z9_ (i.op - 32) (f.regs i.c.toNat).n=0
 ·rw[if_neg (fun h=>h hw)]
  rw[hre]
  refine zf_ (fn:=Try.f115) 1 119 0 rfl rfl rfl rfl rfl u7_ rfl fun w0 M E hro=>?_
  repeat' (first|refine Ctl.h ?_ |((with_reducible intro hif);first |(focus (cases hif;done)) |((try simp only[JH]at hif);try exact hy_)) |((with_reducible first|apply J22 yg_ za_|apply J23 fol yg_ za_|apply J24);(·rfl);(· exact k97_);(try kernel_rfl);try exact k9_)|fail)
  apply At.endsRet za_ (fn:=Try.f115) (rs:=[.cell 4 212]) Anc.refl hro (lb_ rfl) rfl
  ·exact k3_
  ·exact k4_
  ·exact k5_
  ·rfl
  ·exact k6_
  ·exact k7_
  ·exact fun β=>x3_ (rfl)
  ·exact k6_
 ·rw[if_pos hw]
  refine zf_ (fn:=Try.f115) 1 119 0 rfl rfl rfl rfl rfl u7_ rfl fun w0 M E hro=>?_
  repeat' (first|refine Ctl.h ?_ |((with_reducible intro hif);first |(focus (cases hif;done)) |((try simp only[JH]at hif);try exact hy_)) |((with_reducible first|apply J22 yg_ za_|apply J23 fol yg_ za_|apply J24);(·rfl);(· exact k97_);(try kernel_rfl);try exact k9_)|fail)
  apply At.endsRet za_ (fn:=Try.f115) (rs:=[.cell 4 212]) Anc.refl hro (lb_ rfl) rfl
  ·exact k3_
  ·exact k4_
  ·exact k5_
  ·rfl
  ·exact k6_
  ·exact k7_
  ·exact fun β=>f0_den
  ·exact k6_
def sRAft:y4_:=fun args h m=>match args with
 | [v1,v2]=>bif xt_ v1 && isFt v2 then some (((zd_ v1).ok)∧((zd_ v1).a < 8)∧((zd_ v1).b < 8)∧((zd_ v1).c < 8)∧((∀r,R64 ((ftOf v2).regs r).n)),ftS (yn_ (zd_ v1) (ftOf v2)),[],[])else none
 | _=>none
theorem sRAft_ok:zm_ Try.prog 115 sRAft:=by
 refine⟨zg_ (by kernel_rfl),fun args h m c v rd wr hs hm hc w0 M β h' w R hrd hwr hst=>?_⟩
 unfold sRAft at hs
 split at hs
 ·rename_i v1 v2
  obtain⟨hb,hs⟩:=zn_ hs
  simp only[Option.some.injEq,Prod.mk.injEq]at hs
  obtain⟨rfl,rfl,rfl,rfl⟩:=hs
  simp only[Bool.and_eq_true]at hb
  obtain⟨b1,b2⟩:=hb
  obtain⟨y1,y2,y3,y4,y5⟩:=hc
  refine yb_ (views:=[]) (after_lit (zd_ v1) (ftOf v2) y1 y2 y3 y4 y5) ?_ R hm hwr ?_ ?_ ?_
  ·intro x hx;cases hx
  ·intro β1 hv
   simp only[denL,z7_,z6_,z5_,zt_,zc_,den_insOf b1,ftOf_den b2,den_insS,ftS_den]
  ·exact k6_
  ·exact k6_
 ·cases hs
theorem rwhy_lit (lc lp ll:Int)(i:Ins)(f:Ft)(hi:i.ok)(ha:i.a < 8)(hb:i.b < 8)(hc:i.c < 8)(hl:limB lc lp ll=true):zz_ Try.prog 149 [insS i,ftS f,.agg [.int .i64 lc,.int .i64 lp,.int .i64 ll]] [.gone] (.int .i64 (y5_ lc lp ll i f)) [.gone]:=by
 obtain⟨o0,o1,a0,a1,b0,b1,c0,c1,n0,n1⟩:=hi
 have han:i.a.toNat < 8:=by omega
 have hbn:i.b.toNat < 8:=by omega
 have hcn:i.c.toNat < 8:=by omega
 simp only[limB,Bool.and_eq_true,decide_eq_true_eq]at hl
 obtain⟨l0,l1,l2,l3,l4,l5⟩:=hl
 cases hre:f.reached
 ·have e:y5_ lc lp ll i f=0:=by unfold y5_;simp[hre]
  rw[e]
  refine zf_ (fn:=Try.f149) 1 92 0 rfl rfl rfl rfl rfl u7_ rfl fun w0 M E hro=>?_
  repeat' (first|refine Ctl.h ?_ |((with_reducible intro hif);first |(focus (cases hif;done)) |((try simp only[JH]at hif);try exact hy_)) |((with_reducible first|apply J22 zl_ za_|apply J23 fol zl_ za_|apply J24);(·rfl);(· (simp only[push_cast,↓JP,Nat.reduceAdd,Nat.reduceEqDiff,Nat.reduceLT,Nat.reduceMul,Nat.reduceLeDiff,reduceCtorEq,reduceIte,↓JK,↓JF,hre];rfl));(try kernel_rfl);try exact k9_)|fail)
  apply At.endsRet za_ (fn:=Try.f149) (rs:=[.tmp 6]) Anc.refl hro (lb_ rfl) rfl
  ·exact k3_
  ·exact k4_
  ·exact k5_
  ·rfl
  ·exact k6_
  ·exact k7_
  ·exact fun β=>rfl
  ·exact k6_
 by_cases h2:i.op=2
 ·have e:y5_ lc lp ll i f=176:=by unfold y5_;simp[hre,h2]
  rw[e]
  refine zf_ (fn:=Try.f149) 1 92 0 rfl rfl rfl rfl rfl u7_ rfl fun w0 M E hro=>?_
  repeat' (first|refine Ctl.h ?_ |((with_reducible intro hif);first |(focus (cases hif;done)) |((try simp only[JH]at hif);try exact hy_)) |((with_reducible first|apply J22 zl_ za_|apply J23 fol zl_ za_|apply J24);(·rfl);(· (simp only[push_cast,↓JP,Nat.reduceAdd,Nat.reduceEqDiff,Nat.reduceLT,Nat.reduceMul,Nat.reduceLeDiff,reduceCtorEq,reduceIte,↓JK,↓JF,hre,h2];rfl));(try kernel_rfl);try exact k9_)|fail)
  apply At.endsRet za_ (fn:=Try.f149) (rs:=[.tmp 6]) Anc.refl hro (lb_ rfl) rfl
  ·exact k3_
  ·exact k4_
  ·exact k5_
  ·rfl
  ·exact k6_
  ·exact k7_
  ·exact fun β=>rfl
  ·exact k6_
 by_cases h5:i.op=5
 ·by_cases q1:lc=0
  ·have e:y5_ lc lp ll i f=172:=by unfold y5_;simp[hre,h5,q1]
   rw[e]
   refine zf_ (fn:=Try.f149) 1 92 0 rfl rfl rfl rfl rfl u7_ rfl fun w0 M E hro=>?_
   repeat' (first|refine Ctl.h ?_ |((with_reducible intro hif);first |(focus (cases hif;done)) |((try simp only[JH]at hif);try exact hy_)) |((with_reducible first|apply J22 zl_ za_|apply J23 fol zl_ za_|apply J24);(·rfl);(· (simp only[push_cast,↓JP,Nat.reduceAdd,Nat.reduceEqDiff,Nat.reduceLT,Nat.reduceMul,Nat.reduceLeDiff,reduceCtorEq,reduceIte,↓JK,↓JF,hre,h5,q1];rfl));(try kernel_rfl);try exact k9_)|fail)
   apply At.endsRet za_ (fn:=Try.f149) (rs:=[.tmp 6]) Anc.refl hro (lb_ rfl) rfl
   ·exact k3_
   ·exact k4_
   ·exact k5_
   ·rfl
   ·exact k6_
   ·exact k7_
   ·exact fun β=>rfl
   ·exact k6_
  cases q2:(f.regs i.b.toNat).is_
  ·have e:y5_ lc lp ll i f=0:=by unfold y5_;simp[hre,h5,q1,q2]
   rw[e]
   refine zf_ (fn:=Try.f149) 1 92 0 rfl rfl rfl rfl rfl u7_ rfl fun w0 M E hro=>?_
   repeat' (first|refine Ctl.h ?_ |((with_reducible intro hif);first |(focus (cases hif;done)) |((try simp only[JH]at hif);try exact hy_)) |((with_reducible first|apply J22 zl_ za_|apply J23 fol zl_ za_|apply J24);(·rfl);(· (simp only[push_cast,↓JP,Nat.reduceAdd,Nat.reduceEqDiff,Nat.reduceLT,Nat.reduceMul,Nat.reduceLeDiff,reduceCtorEq,reduceIte,↓JK,↓JF,hre,h5,q1,q2];rfl));(try kernel_rfl);try exact k9_)|fail)
   apply At.endsRet za_ (fn:=Try.f149) (rs:=[.tmp 6]) Anc.refl hro (lb_ rfl) rfl
   ·exact k3_
   ·exact k4_
   ·exact k5_
   ·rfl
   ·exact k6_
   ·exact k7_
   ·exact fun β=>rfl
   ·exact k6_
  by_cases q3:(f.regs i.b.toNat).n < 0
  ·have e:y5_ lc lp ll i f=172:=by unfold y5_;simp[hre,h5,q1,q2,q3]
   rw[e]
   refine zf_ (fn:=Try.f149) 1 92 0 rfl rfl rfl rfl rfl u7_ rfl fun w0 M E hro=>?_
   repeat' (first|refine Ctl.h ?_ |((with_reducible intro hif);first |(focus (cases hif;done)) |((try simp only[JH]at hif);try exact hy_)) |((with_reducible first|apply J22 zl_ za_|apply J23 fol zl_ za_|apply J24);(·rfl);(· (simp only[push_cast,↓JP,Nat.reduceAdd,Nat.reduceEqDiff,Nat.reduceLT,Nat.reduceMul,Nat.reduceLeDiff,reduceCtorEq,reduceIte,↓JK,↓JF,hre,h5,q1,q2,q3];rfl));(try kernel_rfl);try exact k9_)|fail)
   apply At.endsRet za_ (fn:=Try.f149) (rs:=[.tmp 6]) Anc.refl hro (lb_ rfl) rfl
   ·exact k3_
   ·exact k4_
   ·exact k5_
   ·rfl
   ·exact k6_
   ·exact k7_
   ·exact fun β=>rfl
   ·exact k6_
  by_cases q4:lc≤(f.regs i.b.toNat).n
  ·have q5:lc - 1 < (f.regs i.b.toNat).n:=by omega
   have e:y5_ lc lp ll i f=172:=by unfold y5_;simp[hre,h5,q1,q2,q3,q4]
   rw[e]
   refine zf_ (fn:=Try.f149) 1 92 0 rfl rfl rfl rfl rfl u7_ rfl fun w0 M E hro=>?_
   repeat' (first|refine Ctl.h ?_ |((with_reducible intro hif);first |(focus (cases hif;done)) |((try simp only[JH]at hif);try exact hy_)) |((with_reducible first|apply J22 zl_ za_|apply J23 fol zl_ za_|apply J24);(·rfl);(· exact k98_);(try kernel_rfl);try exact k9_)|fail)
   apply At.endsRet za_ (fn:=Try.f149) (rs:=[.tmp 6]) Anc.refl hro (lb_ rfl) rfl
   ·exact k3_
   ·exact k4_
   ·exact k5_
   ·rfl
   ·exact k6_
   ·exact k7_
   ·exact fun β=>rfl
   ·exact k6_
  ·have q5:¬(lc - 1 < (f.regs i.b.toNat).n):=by omega
   have e:y5_ lc lp ll i f=0:=by unfold y5_;simp[hre,h5,q1,q2,q3,q4]
   rw[e]
   refine zf_ (fn:=Try.f149) 1 92 0 rfl rfl rfl rfl rfl u7_ rfl fun w0 M E hro=>?_
   repeat' (first|refine Ctl.h ?_ |((with_reducible intro hif);first |(focus (cases hif;done)) |((try simp only[JH]at hif);try exact hy_)) |((with_reducible first|apply J22 zl_ za_|apply J23 fol zl_ za_|apply J24);(·rfl);(· exact k98_);(try kernel_rfl);try exact k9_)|fail)
   apply At.endsRet za_ (fn:=Try.f149) (rs:=[.tmp 6]) Anc.refl hro (lb_ rfl) rfl
   ·exact k3_
   ·exact k4_
   ·exact k5_
   ·rfl
   ·exact k6_
   ·exact k7_
   ·exact fun β=>rfl
   ·exact k6_
 by_cases h6:i.op=6
 ·by_cases q1:lc=0
  ·have e:y5_ lc lp ll i f=172:=by unfold y5_;simp[hre,h6,q1]
   rw[e]
   refine zf_ (fn:=Try.f149) 1 92 0 rfl rfl rfl rfl rfl u7_ rfl fun w0 M E hro=>?_
   repeat' (first|refine Ctl.h ?_ |((with_reducible intro hif);first |(focus (cases hif;done)) |((try simp only[JH]at hif);try exact hy_)) |((with_reducible first|apply J22 zl_ za_|apply J23 fol zl_ za_|apply J24);(·rfl);(· (simp only[push_cast,↓JP,Nat.reduceAdd,Nat.reduceEqDiff,Nat.reduceLT,Nat.reduceMul,Nat.reduceLeDiff,reduceCtorEq,reduceIte,↓JK,↓JF,hre,h6,q1];rfl));(try kernel_rfl);try exact k9_)|fail)
   apply At.endsRet za_ (fn:=Try.f149) (rs:=[.tmp 6]) Anc.refl hro (lb_ rfl) rfl
   ·exact k3_
   ·exact k4_
   ·exact k5_
   ·rfl
   ·exact k6_
   ·exact k7_
   ·exact fun β=>rfl
   ·exact k6_
  cases q2:(f.regs i.b.toNat).is_
  ·have e:y5_ lc lp ll i f=0:=by unfold y5_;simp[hre,h6,q1,q2]
   rw[e]
   refine zf_ (fn:=Try.f149) 1 92 0 rfl rfl rfl rfl rfl u7_ rfl fun w0 M E hro=>?_
   repeat' (first|refine Ctl.h ?_ |((with_reducible intro hif);first |(focus (cases hif;done)) |((try simp only[JH]at hif);try exact hy_)) |((with_reducible first|apply J22 zl_ za_|apply J23 fol zl_ za_|apply J24);(·rfl);(· (simp only[push_cast,↓JP,Nat.reduceAdd,Nat.reduceEqDiff,Nat.reduceLT,Nat.reduceMul,Nat.reduceLeDiff,reduceCtorEq,reduceIte,↓JK,↓JF,hre,h6,q1,q2];rfl));(try kernel_rfl);try exact k9_)|fail)
   apply At.endsRet za_ (fn:=Try.f149) (rs:=[.tmp 6]) Anc.refl hro (lb_ rfl) rfl
   ·exact k3_
   ·exact k4_
   ·exact k5_
   ·rfl
   ·exact k6_
   ·exact k7_
   ·exact fun β=>rfl
   ·exact k6_
  by_cases q3:(f.regs i.b.toNat).n < 0
  ·have e:y5_ lc lp ll i f=172:=by unfold y5_;simp[hre,h6,q1,q2,q3]
   rw[e]
   refine zf_ (fn:=Try.f149) 1 92 0 rfl rfl rfl rfl rfl u7_ rfl fun w0 M E hro=>?_
   repeat' (first|refine Ctl.h ?_ |((with_reducible intro hif);first |(focus (cases hif;done)) |((try simp only[JH]at hif);try exact hy_)) |((with_reducible first|apply J22 zl_ za_|apply J23 fol zl_ za_|apply J24);(·rfl);(· (simp only[push_cast,↓JP,Nat.reduceAdd,Nat.reduceEqDiff,Nat.reduceLT,Nat.reduceMul,Nat.reduceLeDiff,reduceCtorEq,reduceIte,↓JK,↓JF,hre,h6,q1,q2,q3];rfl));(try kernel_rfl);try exact k9_)|fail)
   apply At.endsRet za_ (fn:=Try.f149) (rs:=[.tmp 6]) Anc.refl hro (lb_ rfl) rfl
   ·exact k3_
   ·exact k4_
   ·exact k5_
   ·rfl
   ·exact k6_
   ·exact k7_
   ·exact fun β=>rfl
   ·exact k6_
  by_cases q4:lc≤(f.regs i.b.toNat).n
  ·have q5:lc - 1 < (f.regs i.b.toNat).n:=by omega
   have e:y5_ lc lp ll i f=172:=by unfold y5_;simp[hre,h6,q1,q2,q3,q4]
   rw[e]
   refine zf_ (fn:=Try.f149) 1 92 0 rfl rfl rfl rfl rfl u7_ rfl fun w0 M E hro=>?_
   repeat' (first|refine Ctl.h ?_ |((with_reducible intro hif);first |(focus (cases hif;done)) |((try simp only[JH]at hif);try exact hy_)) |((with_reducible first|apply J22 zl_ za_|apply J23 fol zl_ za_|apply J24);(·rfl);(· exact k99_);(try kernel_rfl);try exact k9_)|fail)
   apply At.endsRet za_ (fn:=Try.f149) (rs:=[.tmp 6]) Anc.refl hro (lb_ rfl) rfl
   ·exact k3_
   ·exact k4_
   ·exact k5_
   ·rfl
   ·exact k6_
   ·exact k7_
   ·exact fun β=>rfl
   ·exact k6_
  ·have q5:¬(lc - 1 < (f.regs i.b.toNat).n):=by omega
   have e:y5_ lc lp ll i f=0:=by unfold y5_;simp[hre,h6,q1,q2,q3,q4]
   rw[e]
   refine zf_ (fn:=Try.f149) 1 92 0 rfl rfl rfl rfl rfl u7_ rfl fun w0 M E hro=>?_
   repeat' (first|refine Ctl.h ?_ |((with_reducible intro hif);first |(focus (cases hif;done)) |((try simp only[JH]at hif);try exact hy_)) |((with_reducible first|apply J22 zl_ za_|apply J23 fol zl_ za_|apply J24);(·rfl);(· exact k99_);(try kernel_rfl);try exact k9_)|fail)
   apply At.endsRet za_ (fn:=Try.f149) (rs:=[.tmp 6]) Anc.refl hro (lb_ rfl) rfl
   ·exact k3_
   ·exact k4_
   ·exact k5_
   ·rfl
   ·exact k6_
   ·exact k7_
   ·exact fun β=>rfl
   ·exact k6_
 by_cases h7:i.op=7
 ·cases q2:(f.regs i.b.toNat).is_
  ·have e:y5_ lc lp ll i f=0:=by unfold y5_;simp[hre,h7,q2,divB]
   rw[e]
   refine zf_ (fn:=Try.f149) 1 92 0 rfl rfl rfl rfl rfl u7_ rfl fun w0 M E hro=>?_
   repeat' (first|refine Ctl.h ?_ |((with_reducible intro hif);first |(focus (cases hif;done)) |((try simp only[JH]at hif);try exact hy_)) |((with_reducible first|apply J22 zl_ za_|apply J23 fol zl_ za_|apply J24);(·rfl);(· (simp only[push_cast,↓JP,Nat.reduceAdd,Nat.reduceEqDiff,Nat.reduceLT,Nat.reduceMul,Nat.reduceLeDiff,reduceCtorEq,reduceIte,↓JK,↓JF,hre,h7,q2];rfl));(try kernel_rfl);try exact k9_)|fail)
   apply At.endsRet za_ (fn:=Try.f149) (rs:=[.tmp 6]) Anc.refl hro (lb_ rfl) rfl
   ·exact k3_
   ·exact k4_
   ·exact k5_
   ·rfl
   ·exact k6_
   ·exact k7_
   ·exact fun β=>rfl
   ·exact k6_
  by_cases q3:(f.regs i.b.toNat).n < 1
  ·have q5:(f.regs i.b.toNat).n≤0:=by omega
   have e:y5_ lc lp ll i f=175:=by unfold y5_;simp[hre,h7,q2,q3,divB]
   rw[e]
   refine zf_ (fn:=Try.f149) 1 92 0 rfl rfl rfl rfl rfl u7_ rfl fun w0 M E hro=>?_
   repeat' (first|refine Ctl.h ?_ |((with_reducible intro hif);first |(focus (cases hif;done)) |((try simp only[JH]at hif);try exact hy_)) |((with_reducible first|apply J22 zl_ za_|apply J23 fol zl_ za_|apply J24);(·rfl);(· exact k100_);(try kernel_rfl);try exact k9_)|fail)
   apply At.endsRet za_ (fn:=Try.f149) (rs:=[.tmp 6]) Anc.refl hro (lb_ rfl) rfl
   ·exact k3_
   ·exact k4_
   ·exact k5_
   ·rfl
   ·exact k6_
   ·exact k7_
   ·exact fun β=>rfl
   ·exact k6_
  ·have q5:¬((f.regs i.b.toNat).n≤0):=by omega
   have e:y5_ lc lp ll i f=0:=by unfold y5_;simp[hre,h7,q2,q3,divB]
   rw[e]
   refine zf_ (fn:=Try.f149) 1 92 0 rfl rfl rfl rfl rfl u7_ rfl fun w0 M E hro=>?_
   repeat' (first|refine Ctl.h ?_ |((with_reducible intro hif);first |(focus (cases hif;done)) |((try simp only[JH]at hif);try exact hy_)) |((with_reducible first|apply J22 zl_ za_|apply J23 fol zl_ za_|apply J24);(·rfl);(· exact k100_);(try kernel_rfl);try exact k9_)|fail)
   apply At.endsRet za_ (fn:=Try.f149) (rs:=[.tmp 6]) Anc.refl hro (lb_ rfl) rfl
   ·exact k3_
   ·exact k4_
   ·exact k5_
   ·rfl
   ·exact k6_
   ·exact k7_
   ·exact fun β=>rfl
   ·exact k6_
 by_cases h8:i.op=8
 ·by_cases q1:lp≤i.n
  ·have q5:lp - 1 < i.n:=by omega
   have e:y5_ lc lp ll i f=173:=by unfold y5_;simp[hre,h8,q1]
   rw[e]
   refine zf_ (fn:=Try.f149) 1 92 0 rfl rfl rfl rfl rfl u7_ rfl fun w0 M E hro=>?_
   repeat' (first|refine Ctl.h ?_ |((with_reducible intro hif);first |(focus (cases hif;done)) |((try simp only[JH]at hif);try exact hy_)) |((with_reducible first|apply J22 zl_ za_|apply J23 fol zl_ za_|apply J24);(·rfl);(· (simp only[push_cast,↓JP,Nat.reduceAdd,Nat.reduceEqDiff,Nat.reduceLT,Nat.reduceMul,Nat.reduceLeDiff,reduceCtorEq,reduceIte,↓JK,↓JF,hre,h8,q5];rfl));(try kernel_rfl);try exact k9_)|fail)
   apply At.endsRet za_ (fn:=Try.f149) (rs:=[.tmp 6]) Anc.refl hro (lb_ rfl) rfl
   ·exact k3_
   ·exact k4_
   ·exact k5_
   ·rfl
   ·exact k6_
   ·exact k7_
   ·exact fun β=>rfl
   ·exact k6_
  have q5:¬(lp - 1 < i.n):=by omega
  cases q2:(f.regs i.a.toNat).is_
  ·have e:y5_ lc lp ll i f=0:=by unfold y5_;simp[hre,h8,q1,q2,divB]
   rw[e]
   refine zf_ (fn:=Try.f149) 1 92 0 rfl rfl rfl rfl rfl u7_ rfl fun w0 M E hro=>?_
   repeat' (first|refine Ctl.h ?_ |((with_reducible intro hif);first |(focus (cases hif;done)) |((try simp only[JH]at hif);try exact hy_)) |((with_reducible first|apply J22 zl_ za_|apply J23 fol zl_ za_|apply J24);(·rfl);(· (simp only[push_cast,↓JP,Nat.reduceAdd,Nat.reduceEqDiff,Nat.reduceLT,Nat.reduceMul,Nat.reduceLeDiff,reduceCtorEq,reduceIte,↓JK,↓JF,hre,h8,q5,q2];rfl));(try kernel_rfl);try exact k9_)|fail)
   apply At.endsRet za_ (fn:=Try.f149) (rs:=[.tmp 6]) Anc.refl hro (lb_ rfl) rfl
   ·exact k3_
   ·exact k4_
   ·exact k5_
   ·rfl
   ·exact k6_
   ·exact k7_
   ·exact fun β=>rfl
   ·exact k6_
  by_cases q3:(f.regs i.a.toNat).n < ll
  ·have e:y5_ lc lp ll i f=174:=by unfold y5_;simp[hre,h8,q1,q2,q3]
   rw[e]
   refine zf_ (fn:=Try.f149) 1 92 0 rfl rfl rfl rfl rfl u7_ rfl fun w0 M E hro=>?_
   repeat' (first|refine Ctl.h ?_ |((with_reducible intro hif);first |(focus (cases hif;done)) |((try simp only[JH]at hif);try exact hy_)) |((with_reducible first|apply J22 zl_ za_|apply J23 fol zl_ za_|apply J24);(·rfl);(· exact k101_);(try kernel_rfl);try exact k9_)|fail)
   apply At.endsRet za_ (fn:=Try.f149) (rs:=[.tmp 6]) Anc.refl hro (lb_ rfl) rfl
   ·exact k3_
   ·exact k4_
   ·exact k5_
   ·rfl
   ·exact k6_
   ·exact k7_
   ·exact fun β=>rfl
   ·exact k6_
  ·have e:y5_ lc lp ll i f=0:=by unfold y5_;simp[hre,h8,q1,q2,q3,divB]
   rw[e]
   refine zf_ (fn:=Try.f149) 1 92 0 rfl rfl rfl rfl rfl u7_ rfl fun w0 M E hro=>?_
   repeat' (first|refine Ctl.h ?_ |((with_reducible intro hif);first |(focus (cases hif;done)) |((try simp only[JH]at hif);try exact hy_)) |((with_reducible first|apply J22 zl_ za_|apply J23 fol zl_ za_|apply J24);(·rfl);(· exact k101_);(try kernel_rfl);try exact k9_)|fail)
   apply At.endsRet za_ (fn:=Try.f149) (rs:=[.tmp 6]) Anc.refl hro (lb_ rfl) rfl
   ·exact k3_
   ·exact k4_
   ·exact k5_
   ·rfl
   ·exact k6_
   ·exact k7_
   ·exact fun β=>rfl
   ·exact k6_
 by_cases h36:i.op=36
 ·cases q1:(f.regs i.c.toNat).is_
  ·have e:y5_ lc lp ll i f=0:=by unfold y5_;simp[hre,h36,q1,divB]
   rw[e]
   refine zf_ (fn:=Try.f149) 1 92 0 rfl rfl rfl rfl rfl u7_ rfl fun w0 M E hro=>?_
   repeat' (first|refine Ctl.h ?_ |((with_reducible intro hif);first |(focus (cases hif;done)) |((try simp only[JH]at hif);try exact hy_)) |((with_reducible first|apply J22 zl_ za_|apply J23 fol zl_ za_|apply J24);(·rfl);(· (simp only[push_cast,↓JP,Nat.reduceAdd,Nat.reduceEqDiff,Nat.reduceLT,Nat.reduceMul,Nat.reduceLeDiff,reduceCtorEq,reduceIte,↓JK,↓JF,hre,h36,q1];rfl));(try kernel_rfl);try exact k9_)|fail)
   apply At.endsRet za_ (fn:=Try.f149) (rs:=[.tmp 6]) Anc.refl hro (lb_ rfl) rfl
   ·exact k3_
   ·exact k4_
   ·exact k5_
   ·rfl
   ·exact k6_
   ·exact k7_
   ·exact fun β=>rfl
   ·exact k6_
  by_cases q2:(f.regs i.c.toNat).n=0
  ·have e:y5_ lc lp ll i f=131:=by unfold y5_;simp[hre,h36,q1,q2,divB]
   rw[e]
   refine zf_ (fn:=Try.f149) 1 92 0 rfl rfl rfl rfl rfl u7_ rfl fun w0 M E hro=>?_
   repeat' (first|refine Ctl.h ?_ |((with_reducible intro hif);first |(focus (cases hif;done)) |((try simp only[JH]at hif);try exact hy_)) |((with_reducible first|apply J22 zl_ za_|apply J23 fol zl_ za_|apply J24);(·rfl);(· exact k102_);(try kernel_rfl);try exact k9_)|fail)
   apply At.endsRet za_ (fn:=Try.f149) (rs:=[.tmp 6]) Anc.refl hro (lb_ rfl) rfl
   ·exact k3_
   ·exact k4_
   ·exact k5_
   ·rfl
   ·exact k6_
   ·exact k7_
   ·exact fun β=>rfl
   ·exact k6_
  ·have e:y5_ lc lp ll i f=0:=by unfold y5_;simp[hre,h36,q1,q2,divB]
   rw[e]
   refine zf_ (fn:=Try.f149) 1 92 0 rfl rfl rfl rfl rfl u7_ rfl fun w0 M E hro=>?_
   repeat' (first|refine Ctl.h ?_ |((with_reducible intro hif);first |(focus (cases hif;done)) |((try simp only[JH]at hif);try exact hy_)) |((with_reducible first|apply J22 zl_ za_|apply J23 fol zl_ za_|apply J24);(·rfl);(· exact k102_);(try kernel_rfl);try exact k9_)|fail)
   apply At.endsRet za_ (fn:=Try.f149) (rs:=[.tmp 6]) Anc.refl hro (lb_ rfl) rfl
   ·exact k3_
   ·exact k4_
   ·exact k5_
   ·rfl
   ·exact k6_
   ·exact k7_
   ·exact fun β=>rfl
   ·exact k6_
 by_cases h37:i.op=37
 ·cases q1:(f.regs i.c.toNat).is_
  ·have e:y5_ lc lp ll i f=0:=by unfold y5_;simp[hre,h37,q1,divB]
   rw[e]
   refine zf_ (fn:=Try.f149) 1 92 0 rfl rfl rfl rfl rfl u7_ rfl fun w0 M E hro=>?_
   repeat' (first|refine Ctl.h ?_ |((with_reducible intro hif);first |(focus (cases hif;done)) |((try simp only[JH]at hif);try exact hy_)) |((with_reducible first|apply J22 zl_ za_|apply J23 fol zl_ za_|apply J24);(·rfl);(· (simp only[push_cast,↓JP,Nat.reduceAdd,Nat.reduceEqDiff,Nat.reduceLT,Nat.reduceMul,Nat.reduceLeDiff,reduceCtorEq,reduceIte,↓JK,↓JF,hre,h37,q1];rfl));(try kernel_rfl);try exact k9_)|fail)
   apply At.endsRet za_ (fn:=Try.f149) (rs:=[.tmp 6]) Anc.refl hro (lb_ rfl) rfl
   ·exact k3_
   ·exact k4_
   ·exact k5_
   ·rfl
   ·exact k6_
   ·exact k7_
   ·exact fun β=>rfl
   ·exact k6_
  by_cases q2:(f.regs i.c.toNat).n=0
  ·have e:y5_ lc lp ll i f=131:=by unfold y5_;simp[hre,h37,q1,q2,divB]
   rw[e]
   refine zf_ (fn:=Try.f149) 1 92 0 rfl rfl rfl rfl rfl u7_ rfl fun w0 M E hro=>?_
   repeat' (first|refine Ctl.h ?_ |((with_reducible intro hif);first |(focus (cases hif;done)) |((try simp only[JH]at hif);try exact hy_)) |((with_reducible first|apply J22 zl_ za_|apply J23 fol zl_ za_|apply J24);(·rfl);(· exact k103_);(try kernel_rfl);try exact k9_)|fail)
   apply At.endsRet za_ (fn:=Try.f149) (rs:=[.tmp 6]) Anc.refl hro (lb_ rfl) rfl
   ·exact k3_
   ·exact k4_
   ·exact k5_
   ·rfl
   ·exact k6_
   ·exact k7_
   ·exact fun β=>rfl
   ·exact k6_
  ·have e:y5_ lc lp ll i f=0:=by unfold y5_;simp[hre,h37,q1,q2,divB]
   rw[e]
   refine zf_ (fn:=Try.f149) 1 92 0 rfl rfl rfl rfl rfl u7_ rfl fun w0 M E hro=>?_
   repeat' (first|refine Ctl.h ?_ |((with_reducible intro hif);first |(focus (cases hif;done)) |((try simp only[JH]at hif);try exact hy_)) |((with_reducible first|apply J22 zl_ za_|apply J23 fol zl_ za_|apply J24);(·rfl);(· exact k103_);(try kernel_rfl);try exact k9_)|fail)
   apply At.endsRet za_ (fn:=Try.f149) (rs:=[.tmp 6]) Anc.refl hro (lb_ rfl) rfl
   ·exact k3_
   ·exact k4_
   ·exact k5_
   ·rfl
   ·exact k6_
   ·exact k7_
   ·exact fun β=>rfl
   ·exact k6_
 by_cases h38:i.op=38
 ·cases q1:(f.regs i.c.toNat).is_
  ·have e:y5_ lc lp ll i f=0:=by unfold y5_;simp[hre,h38,q1,divB]
   rw[e]
   refine zf_ (fn:=Try.f149) 1 92 0 rfl rfl rfl rfl rfl u7_ rfl fun w0 M E hro=>?_
   repeat' (first|refine Ctl.h ?_ |((with_reducible intro hif);first |(focus (cases hif;done)) |((try simp only[JH]at hif);try exact hy_)) |((with_reducible first|apply J22 zl_ za_|apply J23 fol zl_ za_|apply J24);(·rfl);(· (simp only[push_cast,↓JP,Nat.reduceAdd,Nat.reduceEqDiff,Nat.reduceLT,Nat.reduceMul,Nat.reduceLeDiff,reduceCtorEq,reduceIte,↓JK,↓JF,hre,h38,q1];rfl));(try kernel_rfl);try exact k9_)|fail)
   apply At.endsRet za_ (fn:=Try.f149) (rs:=[.tmp 6]) Anc.refl hro (lb_ rfl) rfl
   ·exact k3_
   ·exact k4_
   ·exact k5_
   ·rfl
   ·exact k6_
   ·exact k7_
   ·exact fun β=>rfl
   ·exact k6_
  by_cases q2:(f.regs i.c.toNat).n=0
  ·have e:y5_ lc lp ll i f=131:=by unfold y5_;simp[hre,h38,q1,q2,divB]
   rw[e]
   refine zf_ (fn:=Try.f149) 1 92 0 rfl rfl rfl rfl rfl u7_ rfl fun w0 M E hro=>?_
   repeat' (first|refine Ctl.h ?_ |((with_reducible intro hif);first |(focus (cases hif;done)) |((try simp only[JH]at hif);try exact hy_)) |((with_reducible first|apply J22 zl_ za_|apply J23 fol zl_ za_|apply J24);(·rfl);(· exact k104_);(try kernel_rfl);try exact k9_)|fail)
   apply At.endsRet za_ (fn:=Try.f149) (rs:=[.tmp 6]) Anc.refl hro (lb_ rfl) rfl
   ·exact k3_
   ·exact k4_
   ·exact k5_
   ·rfl
   ·exact k6_
   ·exact k7_
   ·exact fun β=>rfl
   ·exact k6_
  ·have e:y5_ lc lp ll i f=0:=by unfold y5_;simp[hre,h38,q1,q2,divB]
   rw[e]
   refine zf_ (fn:=Try.f149) 1 92 0 rfl rfl rfl rfl rfl u7_ rfl fun w0 M E hro=>?_
   repeat' (first|refine Ctl.h ?_ |((with_reducible intro hif);first |(focus (cases hif;done)) |((try simp only[JH]at hif);try exact hy_)) |((with_reducible first|apply J22 zl_ za_|apply J23 fol zl_ za_|apply J24);(·rfl);(· exact k104_);(try kernel_rfl);try exact k9_)|fail)
   apply At.endsRet za_ (fn:=Try.f149) (rs:=[.tmp 6]) Anc.refl hro (lb_ rfl) rfl
   ·exact k3_
   ·exact k4_
   ·exact k5_
   ·rfl
   ·exact k6_
   ·exact k7_
   ·exact fun β=>rfl
   ·exact k6_
 have e:y5_ lc lp ll i f=0:=by unfold y5_;simp[hre,h2,h5,h6,h7,h8,h36,h37,h38,divB]
 rw[e]
 refine zf_ (fn:=Try.f149) 1 92 0 rfl rfl rfl rfl rfl u7_ rfl fun w0 M E hro=>?_
 repeat' (first|refine Ctl.h ?_ |((with_reducible intro hif);first |(focus (cases hif;done)) |((try simp only[JH]at hif);try exact hy_)) |((with_reducible first|apply J22 zl_ za_|apply J23 fol zl_ za_|apply J24);(·rfl);(· (simp only[push_cast,↓JP,Nat.reduceAdd,Nat.reduceEqDiff,Nat.reduceLT,Nat.reduceMul,Nat.reduceLeDiff,reduceCtorEq,reduceIte,↓JK,↓JF,hre,h2,h5,h6,h7,h8,h36,h37,h38];rfl));(try kernel_rfl);try exact k9_)|fail)
 apply At.endsRet za_ (fn:=Try.f149) (rs:=[.tmp 6]) Anc.refl hro (lb_ rfl) rfl
 ·exact k3_
 ·exact k4_
 ·exact k5_
 ·rfl
 ·exact k6_
 ·exact k7_
 ·exact fun β=>rfl
 ·exact k6_
def sRWhy17:y4_:=fun args h m=>match args with
 | [v1,v2,.agg [v3,v4,v5]]=>bif xt_ v1 && isFt v2 && isI .i64 v3 && isI .i64 v4 && isI .i64 v5 then some (((zd_ v1).ok)∧((zd_ v1).a < 8)∧((zd_ v1).b < 8)∧((zd_ v1).c < 8)∧(limB (iOf v3) (iOf v4) (iOf v5)=true),.int .i64 (y5_ (iOf v3) (iOf v4) (iOf v5) (zd_ v1) (ftOf v2)),[],[])else none
 | _=>none
theorem sRWhy17_ok:zm_ Try.prog 149 sRWhy17:=by
 refine⟨zg_ (by kernel_rfl),fun args h m c v rd wr hs hm hc w0 M β h' w R hrd hwr hst=>?_⟩
 unfold sRWhy17 at hs
 split at hs
 ·rename_i v1 v2 v3 v4 v5
  obtain⟨hb,hs⟩:=zn_ hs
  simp only[Option.some.injEq,Prod.mk.injEq]at hs
  obtain⟨rfl,rfl,rfl,rfl⟩:=hs
  simp only[Bool.and_eq_true]at hb
  obtain⟨⟨⟨⟨b1,b2⟩,b3⟩,b4⟩,b5⟩:=hb
  obtain⟨y1,y2,y3,y4,y5⟩:=hc
  refine yb_ (views:=[]) (rwhy_lit (iOf v3) (iOf v4) (iOf v5) (zd_ v1) (ftOf v2) y1 y2 y3 y4 y5) ?_ R hm hwr ?_ ?_ ?_
  ·intro x hx;cases hx
  ·intro β1 hv
   simp only[denL,z7_,z6_,z5_,zt_,zc_,zo_ b3,zo_ b4,zo_ b5,den_insOf b1,ftOf_den b2,den_insS,ftS_den]
  ·exact k6_
  ·exact k6_
 ·cases hs
end Go.Proofs.Ytmljmabbopkpiaa.Vm
end

import Derived.Test.YtmljmabbopkpiaaC1
import Derived.Test.YtmljmabbopkpiaaC36
set_option linter.unusedSimpArgs false
set_option linter.unusedVariables false
set_option maxRecDepth 100000
set_option maxHeartbeats 4000000
section
namespace Go.Proofs.Ytmljmabbopkpiaa.Vm
open Go.RowKit
attribute [local push_cast] eqB eqBL allB prS sndsS zw_ nav_ins xs_ xr_ xq_ xp_ xo_ nav_snd xn_ xm_ xl_ yo_ yi_ yv_ yq_ yz_ yy_ iOf sTells17 sAwake17 nodupN memN inR inN
theorem okB1 {i:Ins}(h:okB i=true):i.ok:=okB_ok (p:=[i]) (by simp[h]) i (List.mem_singleton.2 rfl)
def some17:List Ins:=[⟨3,3,0,0,1⟩,⟨3,4,0,0,0⟩,⟨4,3,4,0,0⟩,⟨33,3,3,4,0⟩,⟨36,4,3,4,0⟩,⟨10,3,0,0,4⟩,⟨11,4,0,0,1⟩,⟨10,0,0,0,2⟩,⟨5,3,4,0,0⟩,⟨7,4,3,0,0⟩,⟨8,3,4,0,1⟩,⟨9,0,0,0,1⟩]
theorem some17_ok (q:Nat):(some17.getD q ⟨0,0,0,0,0⟩).ok:=by
 rcases q with _|_|_|_|_|_|_|_|_|_|_|_|q
 all_goals exact okB1 rfl
theorem some17_less (t:Nat)(b:Bool):Less (.own t (.arr 12 5 (fun i=>[SV.agg [.nat .u8 3,.nat .u8 3,.nat .u8 0,.nat .u8 0,.nat .i64 1],SV.agg [.nat .u8 3,.nat .u8 4,.nat .u8 0,.nat .u8 0,.nat .i64 0],SV.agg [.nat .u8 4,.nat .u8 3,.nat .u8 4,.nat .u8 0,.nat .i64 0],SV.agg [.nat .u8 33,.nat .u8 3,.nat .u8 3,.nat .u8 4,.nat .i64 0],SV.agg [.nat .u8 36,.nat .u8 4,.nat .u8 3,.nat .u8 4,.nat .i64 0],SV.agg [.nat .u8 10,.nat .u8 3,.nat .u8 0,.nat .u8 0,.nat .i64 4],SV.agg [.nat .u8 11,.nat .u8 4,.nat .u8 0,.nat .u8 0,.nat .i64 1],SV.agg [.nat .u8 10,.nat .u8 0,.nat .u8 0,.nat .u8 0,.nat .i64 2],SV.agg [.nat .u8 5,.nat .u8 3,.nat .u8 4,.nat .u8 0,.nat .i64 0],SV.agg [.nat .u8 7,.nat .u8 4,.nat .u8 3,.nat .u8 0,.nat .i64 0],SV.agg [.nat .u8 8,.nat .u8 3,.nat .u8 4,.nat .u8 0,.nat .i64 1],SV.agg [.nat .u8 9,.nat .u8 0,.nat .u8 0,.nat .u8 0,.nat .i64 1]].getD i (.agg [.nat .u8 0,.nat .u8 0,.nat .u8 0,.nat .u8 0,.nat .i64 0]))) b) (.own t (.arr 12 5 (prS some17)) b):=
 .val (fun β=>arrCl fun q hq=>by rcases q with _|_|_|_|_|_|_|_|_|_|_|_|q<;>first|rfl |(exfalso;omega)) (fun n1 k1 f1 e=>by injection e with e1 e2 e3;subst e1 e2;exact⟨_,rfl⟩) (fun n1 k1 f1 e=>by injection e with e1 e2 e3;subst e1 e2;exact⟨_,rfl⟩)
def lim17:List Ins:=[⟨3,7,0,0,1023⟩,⟨5,0,7,0,0⟩,⟨3,7,0,0,1048576⟩,⟨8,7,0,0,15⟩,⟨3,7,0,0,1024⟩,⟨6,0,7,0,0⟩,⟨2,0,0,0,0⟩]
theorem lim17_ok (q:Nat):(lim17.getD q ⟨0,0,0,0,0⟩).ok:=by
 rcases q with _|_|_|_|_|_|_|q
 all_goals exact okB1 rfl
theorem lim17_less (t:Nat)(b:Bool):Less (.own t (.arr 7 5 (fun i=>[SV.agg [.nat .u8 3,.nat .u8 7,.nat .u8 0,.nat .u8 0,.nat .i64 1023],SV.agg [.nat .u8 5,.nat .u8 0,.nat .u8 7,.nat .u8 0,.nat .i64 0],SV.agg [.nat .u8 3,.nat .u8 7,.nat .u8 0,.nat .u8 0,.nat .i64 1048576],SV.agg [.nat .u8 8,.nat .u8 7,.nat .u8 0,.nat .u8 0,.nat .i64 15],SV.agg [.nat .u8 3,.nat .u8 7,.nat .u8 0,.nat .u8 0,.nat .i64 1024],SV.agg [.nat .u8 6,.nat .u8 0,.nat .u8 7,.nat .u8 0,.nat .i64 0],SV.agg [.nat .u8 2,.nat .u8 0,.nat .u8 0,.nat .u8 0,.nat .i64 0]].getD i (.agg [.nat .u8 0,.nat .u8 0,.nat .u8 0,.nat .u8 0,.nat .i64 0]))) b) (.own t (.arr 7 5 (prS lim17)) b):=
 .val (fun β=>arrCl fun q hq=>by rcases q with _|_|_|_|_|_|_|q<;>first|rfl |(exfalso;omega)) (fun n1 k1 f1 e=>by injection e with e1 e2 e3;subst e1 e2;exact⟨_,rfl⟩) (fun n1 k1 f1 e=>by injection e with e1 e2 e3;subst e1 e2;exact⟨_,rfl⟩)
def wrd17:List Int:=[-9223372036854775808,-1,0,1,2,63,1024,9223372036854775807]
theorem wrd17_R (q:Nat):R64 (wrd17.getD q 0):=by
 rcases q with _|_|_|_|_|_|_|_|q<;>first |(constructor<;>decide)|exact zero_R
theorem wrd17_less (t:Nat)(b:Bool):Less (.own t (.arr 8 1 (fun i=>[SV.int .i64 (-9223372036854775808),SV.int .i64 (-1),SV.nat .i64 0,SV.nat .i64 1,SV.nat .i64 2,SV.nat .i64 63,SV.nat .i64 1024,SV.nat .i64 9223372036854775807].getD i (.nat .i64 0))) b) (.own t (.arr 8 1 (zw_ wrd17)) b):=
 .val (fun β=>arrCl fun q hq=>by rcases q with _|_|_|_|_|_|_|_|q<;>first|rfl |(exfalso;omega)) (fun n1 k1 f1 e=>by injection e with e1 e2 e3;subst e1 e2;exact⟨_,rfl⟩) (fun n1 k1 f1 e=>by injection e with e1 e2 e3;subst e1 e2;exact⟨_,rfl⟩)
def num17:List Int:=[-9223372036854775808,-1,0,1,15,16,17,1022,1023,1024,1025,1048575,1048576,1048577,9223372036854775807]
theorem num17_R (q:Nat):R64 (num17.getD q 0):=by
 rcases q with _|_|_|_|_|_|_|_|_|_|_|_|_|_|_|q<;>first |(constructor<;>decide)|exact zero_R
theorem num17_less (t:Nat)(b:Bool):Less (.own t (.arr 15 1 (fun i=>[SV.int .i64 (-9223372036854775808),SV.int .i64 (-1),SV.nat .i64 0,SV.nat .i64 1,SV.nat .i64 15,SV.nat .i64 16,SV.nat .i64 17,SV.nat .i64 1022,SV.nat .i64 1023,SV.nat .i64 1024,SV.nat .i64 1025,SV.nat .i64 1048575,SV.nat .i64 1048576,SV.nat .i64 1048577,SV.nat .i64 9223372036854775807].getD i (.nat .i64 0))) b) (.own t (.arr 15 1 (zw_ num17)) b):=
 .val (fun β=>arrCl fun q hq=>by rcases q with _|_|_|_|_|_|_|_|_|_|_|_|_|_|_|q<;>first|rfl |(exfalso;omega)) (fun n1 k1 f1 e=>by injection e with e1 e2 e3;subst e1 e2;exact⟨_,rfl⟩) (fun n1 k1 f1 e=>by injection e with e1 e2 e3;subst e1 e2;exact⟨_,rfl⟩)
theorem g117 {p:SV→Bool}{v0 z:SV}(hv0:p v0=true):∀q,q < 1→p ([v0].getD q z)=true:=fun q hq=>by
 rcases q with _|q
 all_goals first|assumption |(exfalso;omega)
theorem g517 {p:SV→Bool}{v0 v1 v2 v3 v4 z:SV}(hv0:p v0=true)(hv1:p v1=true)(hv2:p v2=true)(hv3:p v3=true)(hv4:p v4=true):∀q,q < 5→p ([v0,v1,v2,v3,v4].getD q z)=true:=fun q hq=>by
 rcases q with _|_|_|_|_|q
 all_goals first|assumption |(exfalso;omega)
theorem g917 {p:SV→Bool}{v0 v1 v2 v3 v4 v5 v6 v7 v8 z:SV}(hv0:p v0=true)(hv1:p v1=true)(hv2:p v2=true)(hv3:p v3=true)(hv4:p v4=true)(hv5:p v5=true)(hv6:p v6=true)(hv7:p v7=true)(hv8:p v8=true):∀q,q < 9→p ([v0,v1,v2,v3,v4,v5,v6,v7,v8].getD q z)=true:=fun q hq=>by
 rcases q with _|_|_|_|_|_|_|_|_|q
 all_goals first|assumption |(exfalso;omega)
theorem okls {f:Nat→SV}{n:Nat}(h:∀q,q < n→(zd_ (f q)).ok):∀x∈ls zd_ n f,x.ok:=by
 intro x hx
 unfold ls at hx
 obtain⟨q,hq,rfl⟩:=List.mem_map.1 hx
 exact h q (List.mem_range.1 hq)
theorem ok_prS {P:List Ins}(h:∀q,(P.getD q ⟨0,0,0,0,0⟩).ok)(q:Nat):(zd_ (prS P q)).ok:=h q
theorem o117 {v0 z:SV}(hv0:(zd_ v0).ok):∀x∈ls zd_ 1 (fun i=>[v0].getD i z),x.ok:=okls fun q hq=>by
 rcases q with _|q
 all_goals first|assumption |(exfalso;omega)
theorem o517 {v0 v1 v2 v3 v4 z:SV}(hv0:(zd_ v0).ok)(hv1:(zd_ v1).ok)(hv2:(zd_ v2).ok)(hv3:(zd_ v3).ok)(hv4:(zd_ v4).ok):∀x∈ls zd_ 5 (fun i=>[v0,v1,v2,v3,v4].getD i z),x.ok:=okls fun q hq=>by
 rcases q with _|_|_|_|_|q
 all_goals first|assumption |(exfalso;omega)
theorem o917 {v0 v1 v2 v3 v4 v5 v6 v7 v8 z:SV}(hv0:(zd_ v0).ok)(hv1:(zd_ v1).ok)(hv2:(zd_ v2).ok)(hv3:(zd_ v3).ok)(hv4:(zd_ v4).ok)(hv5:(zd_ v5).ok)(hv6:(zd_ v6).ok)(hv7:(zd_ v7).ok)(hv8:(zd_ v8).ok):∀x∈ls zd_ 9 (fun i=>[v0,v1,v2,v3,v4,v5,v6,v7,v8].getD i z),x.ok:=okls fun q hq=>by
 rcases q with _|_|_|_|_|_|_|_|_|q
 all_goals first|assumption |(exfalso;omega)
theorem ok_raw {a b c d e:Int}(h:0≤a∧a≤255∧0≤b∧b≤255∧0≤c∧c≤255∧0≤d∧d≤255)(he:R64 e):Ins.ok ⟨a,b,c,d,e⟩:=⟨h.1,h.2.1,h.2.2.1,h.2.2.2.1,h.2.2.2.2.1,h.2.2.2.2.2.1,h.2.2.2.2.2.2.1,h.2.2.2.2.2.2.2,he.1,he.2⟩
def cS17:FuncId→Option y4_:=xz_ [(33,sTells17),(18,sAwake17)]
theorem xu_:∀f S,cS17 f=some S→zm_ Try.prog f S:=z0_ ⟨sTells17_ok,sAwake17_ok,trivial⟩
theorem small17_lit:zz_ Try.prog 10 [] [.gone] (.bool true) [.gone]:=by
 have ls1:=some17_less 28 true
 have ls2:=wrd17_less 2 true
 have ls3:=lim17_less 28 true
 have ls4:=num17_less 3 true
 have hPk:=some17_ok
 have hQk:=lim17_ok
 have hWR:=wrd17_R
 have hNR:=num17_R
 obtain⟨P0,e0⟩:∃P0,some17=P0:=⟨_,rfl⟩
 obtain⟨Q0,e1⟩:∃P0,lim17=P0:=⟨_,rfl⟩
 obtain⟨W0,e2⟩:∃P0,wrd17=P0:=⟨_,rfl⟩
 obtain⟨N0,e3⟩:∃P0,num17=P0:=⟨_,rfl⟩
 rw[e0]at ls1 hPk
 rw[e1]at ls3 hQk
 rw[e2]at ls2 hWR
 rw[e3]at ls4 hNR
 clear e0 e1 e2 e3
 refine zf_ (fn:=Try.f10) 1 174 0 rfl rfl rfl rfl rfl trivial rfl fun w0 M E hro=>?_
 have okH:Ins.ok ⟨1,0,0,0,0⟩:=ok_raw (by decide) zero_R
 repeat' (first|refine Ctl.h ?_ |((with_reducible intro hif);first |(focus (cases hif;done)) |((try simp only[JH]at hif);try exact hy_)) |((with_reducible first|apply J22 xu_ za_|apply J23 fol xu_ za_|apply J24);(·rfl);(· (simp only[push_cast,↓JP,Nat.reduceAdd,Nat.reduceEqDiff,Nat.reduceLT,Nat.reduceMul,Nat.reduceLeDiff,reduceCtorEq,reduceIte,↓JK,cS17,List.all_cons,List.all_nil];rfl));(try kernel_rfl);try exact k154_)|fail)
 refine WF.loopAt (fun (w:Nat)=>w≤20736) (fun (w:Nat)=>[(1,.sl 1 1 [] 5 0 12 none),(27,.nat .i64 w)]) (fun (w:Nat)=>[.gone,.own 28 (.arr 12 5 (prS P0)) true]) (fun (w:Nat)=>20736 - w) 0 (Nat.zero_le _) ?_ ?_ rfl ?_ ?_ rfl ?_
 ·exact k8_
 ·exact k5_
 ·exact k153_
 ·exact k153_
 intro w hw
 clear ls1
 by_cases hw2:w < 20736
 case pos=>
  by_cases h1:1 < w % 11
  ·repeat' (first|refine Ctl.h ?_ |((with_reducible intro hif);first |(focus (cases hif;done)) |((try simp only[JH]at hif);try exact hy_)) |((with_reducible first|apply J22 xu_ za_|apply J23 fol xu_ za_|apply J24);(·rfl);(· exact k155_);(try kernel_rfl);try exact k154_)|fail)
   refine At.nextPick [0,1] (w+1) ?_ rfl rfl rfl ?_ rfl ?_ ?_ ?_ rfl
   ·omega
   ·exact k53_
   ·exact k153_
   ·exact k48_
   ·exact k153_
  ·have d1:w / 12 / 12=w / 144:=by omega
   repeat' (first|refine Ctl.h ?_ |((with_reducible intro hif);first |(focus (cases hif;done)) |((try simp only[JH]at hif);try exact hy_)) |((with_reducible first|apply J22 xu_ za_|apply J23 fol xu_ za_|apply J24);(·rfl);(· exact k155_);(try kernel_rfl);try exact k154_)|fail)
   refine At.nextPick [0,1] (w+1) ?_ rfl rfl rfl ?_ rfl ?_ ?_ ?_ rfl
   ·omega
   ·exact k53_
   ·exact k153_
   ·exact k48_
   ·exact k153_
 obtain rfl:w=20736:=by omega
 repeat' (first|refine Ctl.h ?_ |((with_reducible intro hif);first |(focus (cases hif;done)) |((try simp only[JH]at hif);try exact hy_)) |((with_reducible first|apply J22 xu_ za_|apply J23 fol xu_ za_|apply J24);(·rfl);(· (simp only[push_cast,↓JP,Nat.reduceAdd,Nat.reduceEqDiff,Nat.reduceLT,Nat.reduceMul,Nat.reduceLeDiff,reduceCtorEq,reduceIte,↓JK,cS17,List.all_cons,List.all_nil,hw2];rfl));(try kernel_rfl);try exact k154_)|fail)
 refine WF.loopAt (fun (op:Nat)=>1≤op∧op≤18) (fun (op:Nat)=>[(4,.sl 2 2 [] 1 0 8 none),(5,.nat .u8 op)]) (fun (op:Nat)=>[.gone,.gone,.own 2 (.arr 8 1 (zw_ W0)) true]) (fun (op:Nat)=>18 - op) 1 (by omega) ?_ ?_ rfl ?_ ?_ rfl ?_
 ·exact k8_
 ·exact k5_
 ·exact k153_
 ·exact k153_
 intro op hop
 clear ls2
 by_cases hop2:op≤17
 case pos=>
  repeat' (first|refine Ctl.h ?_ |((with_reducible intro hif);first |(focus (cases hif;done)) |((try simp only[JH]at hif);try exact hy_)) |((with_reducible first|apply J22 xu_ za_|apply J23 fol xu_ za_|apply J24);(·rfl);(· exact k156_);(try kernel_rfl);try exact k154_)|fail)
  refine WF.loopAt (fun (j:Nat)=>j≤8) (fun (j:Nat)=>[(4,.sl 2 2 [] 1 0 8 none),(5,.nat .u8 op),(78,.sl 2 2 [] 1 0 8 none),(79,.nat .i64 8),(80,.nat .i64 j)]) (fun (j:Nat)=>[.gone,.gone,.own 2 (.arr 8 1 (zw_ W0)) true]) (fun (j:Nat)=>8 - j) 0 (Nat.zero_le _) ?_ ?_ rfl ?_ ?_ rfl ?_
  ·exact k8_
  ·exact k5_
  ·exact k153_
  ·exact k153_
  intro j hj
  by_cases hj2:j < 8
  case neg=>
   obtain rfl:j=8:=by omega
   repeat' (first|refine Ctl.h ?_ |((with_reducible intro hif);first |(focus (cases hif;done)) |((try simp only[JH]at hif);try exact hy_)) |((with_reducible first|apply J22 xu_ za_|apply J23 fol xu_ za_|apply J24);(·rfl);(· (simp only[push_cast,↓JP,Nat.reduceAdd,Nat.reduceEqDiff,Nat.reduceLT,Nat.reduceMul,Nat.reduceLeDiff,reduceCtorEq,reduceIte,↓JK,cS17,List.all_cons,List.all_nil,hj2];rfl));(try kernel_rfl);try exact k154_)|fail)
   refine At.nextPick [0,1,2] (op+1) ?_ rfl rfl rfl ?_ rfl ?_ ?_ ?_ rfl
   ·omega
   ·exact k53_
   ·exact k153_
   ·exact k48_
   ·exact k153_
  obtain⟨a,ha⟩:∃a,W0.getD j 0=a:=⟨_,rfl⟩
  have haR:=hWR j
  rw[ha]at haR
  repeat' (first|refine Ctl.h ?_ |((with_reducible intro hif);first |(focus (cases hif;done)) |((try simp only[JH]at hif);try exact hy_)) |((with_reducible first|apply J22 xu_ za_|apply J23 fol xu_ za_|apply J24);(·rfl);(· (simp only[push_cast,↓JP,Nat.reduceAdd,Nat.reduceEqDiff,Nat.reduceLT,Nat.reduceMul,Nat.reduceLeDiff,reduceCtorEq,reduceIte,↓JK,cS17,List.all_cons,List.all_nil,zw_,ha,hj2];rfl));(try kernel_rfl);try exact k154_)|fail)
  refine WF.loopAt (fun (k:Nat)=>k≤8) (fun (k:Nat)=>[(4,.sl 2 2 [] 1 0 8 none),(5,.nat .u8 op),(7,.int .i64 a),(78,.sl 2 2 [] 1 0 8 none),(79,.nat .i64 8),(80,.nat .i64 j),(84,.sl 2 2 [] 1 0 8 none),(85,.nat .i64 8),(86,.nat .i64 k)]) (fun (k:Nat)=>[.gone,.gone,.own 2 (.arr 8 1 (zw_ W0)) true]) (fun (k:Nat)=>8 - k) 0 (Nat.zero_le _) ?_ ?_ rfl ?_ ?_ rfl ?_
  ·exact k8_
  ·exact k5_
  ·exact k153_
  ·exact k153_
  intro k hk
  by_cases hk2:k < 8
  case neg=>
   obtain rfl:k=8:=by omega
   repeat' (first|refine Ctl.h ?_ |((with_reducible intro hif);first |(focus (cases hif;done)) |((try simp only[JH]at hif);try exact hy_)) |((with_reducible first|apply J22 xu_ za_|apply J23 fol xu_ za_|apply J24);(·rfl);(· exact k157_);(try kernel_rfl);try exact k154_)|fail)
   refine At.nextPick [0,1,2] (j+1) ?_ rfl rfl rfl ?_ rfl ?_ ?_ ?_ rfl
   ·omega
   ·exact k53_
   ·exact k153_
   ·exact k48_
   ·exact k153_
  obtain⟨b,hb⟩:∃a,W0.getD k 0=a:=⟨_,rfl⟩
  have hbR:=hWR k
  rw[hb]at hbR
  have k9:R64 15:=by constructor<;>decide
  have hOk:∀x∈ls zd_ 9 (fun i=>[SV.agg [.nat .u8 3,.nat .u8 5,.nat .u8 0,.nat .u8 0,.int .i64 a],SV.agg [.nat .u8 3,.nat .u8 6,.nat .u8 0,.nat .u8 0,.int .i64 b],SV.agg [.nat .u8 (32+op),.nat .u8 7,.nat .u8 5,.nat .u8 6,.nat .i64 0],SV.agg [.nat .u8 6,.nat .u8 1,.nat .u8 7,.nat .u8 0,.nat .i64 0],SV.agg [.nat .u8 (32+op),.nat .u8 2,.nat .u8 1,.nat .u8 6,.nat .i64 0],SV.agg [.nat .u8 (32+op),.nat .u8 2,.nat .u8 6,.nat .u8 1,.nat .i64 0],SV.agg [.nat .u8 8,.nat .u8 7,.nat .u8 5,.nat .u8 0,.nat .i64 15],SV.agg [.nat .u8 7,.nat .u8 1,.nat .u8 7,.nat .u8 0,.nat .i64 0],SV.agg [.nat .u8 2,.nat .u8 0,.nat .u8 0,.nat .u8 0,.nat .i64 0]].getD i (.agg [.nat .u8 0,.nat .u8 0,.nat .u8 0,.nat .u8 0,.nat .i64 0])),x.ok:=
   o917 (ok_raw (by decide) haR) (ok_raw (by decide) hbR) (ok_raw (by show (0:Int)≤((32+op:Nat):Int)∧((32+op:Nat):Int)≤255∧_;refine⟨by omega,by omega,?_⟩;decide) zero_R) (ok_raw (by decide) zero_R) (ok_raw (by show (0:Int)≤((32+op:Nat):Int)∧((32+op:Nat):Int)≤255∧_;refine⟨by omega,by omega,?_⟩;decide) zero_R) (ok_raw (by show (0:Int)≤((32+op:Nat):Int)∧((32+op:Nat):Int)≤255∧_;refine⟨by omega,by omega,?_⟩;decide) zero_R) (ok_raw (by decide) k9) (ok_raw (by decide) zero_R) (ok_raw (by decide) zero_R)
  repeat' (first|refine Ctl.h ?_ |((with_reducible intro hif);first |(focus (cases hif;done)) |((try simp only[JH]at hif);try exact hy_)) |((with_reducible first|apply J22 xu_ za_|apply J23 fol xu_ za_|apply J24);(·rfl);(· (simp only[push_cast,↓JP,Nat.reduceAdd,Nat.reduceEqDiff,Nat.reduceLT,Nat.reduceMul,Nat.reduceLeDiff,reduceCtorEq,reduceIte,↓JK,cS17,List.all_cons,List.all_nil,zw_,hb,hk2];rfl));(try kernel_rfl);try exact k154_)|fail)
  refine At.nextPick [0,1,2] (k+1) ?_ rfl rfl rfl ?_ rfl ?_ ?_ ?_ rfl
  ·omega
  ·exact k53_
  ·exact k153_
  ·exact k48_
  ·exact k153_
 obtain rfl:op=18:=by omega
 repeat' (first|refine Ctl.h ?_ |((with_reducible intro hif);first |(focus (cases hif;done)) |((try simp only[JH]at hif);try exact hy_)) |((with_reducible first|apply J22 xu_ za_|apply J23 fol xu_ za_|apply J24);(·rfl);(· exact k156_);(try kernel_rfl);try exact k154_)|fail)
 refine WF.loopAt (fun (k:Nat)=>k≤15) (fun (k:Nat)=>[(11,.sl 3 3 [] 5 0 7 none),(125,.sl 4 4 [] 1 0 15 none),(126,.nat .i64 15),(127,.nat .i64 k)]) (fun (k:Nat)=>[.gone,.gone,.gone,.own 28 (.arr 7 5 (prS Q0)) true,.own 3 (.arr 15 1 (zw_ N0)) true]) (fun (k:Nat)=>15 - k) 0 (Nat.zero_le _) ?_ ?_ rfl ?_ ?_ rfl ?_
 ·exact k8_
 ·exact k5_
 ·exact k153_
 ·exact k153_
 intro k hk
 clear ls3 ls4
 by_cases hk2:k < 15
 case pos=>
  obtain⟨n,hn⟩:∃a,N0.getD k 0=a:=⟨_,rfl⟩
  have hnR:=hNR k
  rw[hn]at hnR
  repeat' (first|refine Ctl.h ?_ |((with_reducible intro hif);first |(focus (cases hif;done)) |((try simp only[JH]at hif);try exact hy_)) |((with_reducible first|apply J22 xu_ za_|apply J23 fol xu_ za_|apply J24);(·rfl);(· (simp only[push_cast,↓JP,Nat.reduceAdd,Nat.reduceEqDiff,Nat.reduceLT,Nat.reduceMul,Nat.reduceLeDiff,reduceCtorEq,reduceIte,↓JK,cS17,List.all_cons,List.all_nil,zw_,hn,hk2];rfl));(try kernel_rfl);try exact k154_)|fail)
  refine At.nextPick [0,1,2,3,4] (k+1) ?_ rfl rfl rfl ?_ rfl ?_ ?_ ?_ rfl
  ·omega
  ·exact k53_
  ·exact k153_
  ·exact k48_
  ·exact k153_
 obtain rfl:k=15:=by omega
 have ok12:∀x∈ls zd_ 1 (fun i=>[SV.agg [.nat .u8 12,.nat .u8 0,.nat .u8 0,.nat .u8 0,.nat .i64 0]].getD i (.agg [.nat .u8 0,.nat .u8 0,.nat .u8 0,.nat .u8 0,.nat .i64 0])),x.ok:=o117 (ok_raw (by decide) zero_R)
 repeat' (first|refine Ctl.h ?_ |((with_reducible intro hif);first |(focus (cases hif;done)) |((try simp only[JH]at hif);try exact hy_)) |((with_reducible first|apply J22 xu_ za_|apply J23 fol xu_ za_|apply J24);(·rfl);(· exact k157_);(try kernel_rfl);try exact k154_)|fail)
 apply At.endsRet za_ (fn:=Try.f10) (rs:=[.tmp 0]) Anc.refl hro (lb_ rfl) rfl
 ·exact k33_
 ·exact k4_
 ·exact k5_
 ·rfl
 ·exact k153_
 ·exact k7_
 ·exact fun β=>rfl
 ·exact k153_
end Go.Proofs.Ytmljmabbopkpiaa.Vm
end

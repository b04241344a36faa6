import Derived.Test.YtjliakjbdcplcaaU1
import Derived.Test.YtjliakjbdcplcaaU10
import Derived.Test.YtjliakjbdcplcaaU12
import Derived.Test.YtjliakjbdcplcaaU15
import Derived.Test.YtjliakjbdcplcaaU16
set_option linter.unusedSimpArgs false
set_option linter.unusedVariables false
set_option maxRecDepth 100000
set_option maxHeartbeats 4000000
section
namespace Go.Proofs.Ytjliakjbdcplcaa.Vm
open Go.RowKit
def stepX (P:List Ins)(s:Sta)(x:Ins):Ins:=if s.ended=true then x else insAt P s.at_
structure RR where
 tr:List Int
 at_:Int
 bad:Int
 s:Sta
 x:Ins
def runA (P:List Ins)(v:Evi):Nat→Sta→Ins→List Int→Int→RR
 | 0,s,x,tr,a=>if s.ended=true then ⟨tr,a,0,s,x⟩ else ⟨tr,s.at_,190,s,x⟩
 | n+1,s,x,tr,a=>if s.ended=true then ⟨tr,a,0,s,x⟩ else
  if stepE P v s=0 then runA P v n (stepS P v s) (stepX P s x) (tr++[s.at_]) s.at_ else ⟨tr++[s.at_],s.at_,stepE P v s,stepS P v s,stepX P s x⟩
theorem runA_end {P:List Ins}{v:Evi}{n:Nat}{s:Sta}{x:Ins}{tr:List Int}{a:Int}(h:s.ended=true):runA P v n s x tr a=⟨tr,a,0,s,x⟩:=by
 cases n<;>simp[runA,h]
theorem runA_zero {P:List Ins}{v:Evi}{s:Sta}{x:Ins}{tr:List Int}{a:Int}(h:s.ended=false):runA P v 0 s x tr a=⟨tr,s.at_,190,s,x⟩:=by simp[runA,h]
theorem runA_go {P:List Ins}{v:Evi}{n:Nat}{s:Sta}{x:Ins}{tr:List Int}{a:Int}(h:s.ended=false)(hn:0 < n)(he:stepE P v s=0):runA P v n s x tr a=runA P v (n - 1) (stepS P v s) (stepX P s x) (tr++[s.at_]) s.at_:=by
 obtain⟨n,rfl⟩:∃k,n=k+1:=⟨n - 1,by omega⟩
 simp[runA,h,he]
theorem runA_bad {P:List Ins}{v:Evi}{n:Nat}{s:Sta}{x:Ins}{tr:List Int}{a:Int}(h:s.ended=false)(hn:0 < n)(he:stepE P v s≠0):runA P v n s x tr a=⟨tr++[s.at_],s.at_,stepE P v s,stepS P v s,stepX P s x⟩:=by
 obtain⟨n,rfl⟩:∃k,n=k+1:=⟨n - 1,by omega⟩
 simp[runA,h,he]
theorem wrongE_vals (op b:Int):xg_ op b=0∨xg_ op b=130∨xg_ op b=131:=by
 unfold xg_
 split
 ·omega
 ·split<;>omega
theorem doE_ne190 (s:Sta)(v:Evi)(x:Ins):doE s v x≠190:=by
 unfold doE sendE
 have:=wrongE_vals (x.op - 32) (s.regs x.c.toNat)
 repeat' split
 all_goals omega
theorem stepE_ne190 (P:List Ins)(v:Evi)(s:Sta):stepE P v s≠190:=by
 unfold stepE
 split
 ·omega
 ·exact doE_ne190 _ _ _
def rrE (f:Int):Int:=if f < 0∨4096 < f then 2 else 0
def begR (value time source:Int):Nat→Int:=fun q=>if q=2 then source else if q=1 then time else if q=0 then value else 0
def ya_ (value time source:Int)(cells:List Int)(draws:Int):Sta:=⟨0,false,begR value time source,cells,draws,[]⟩
def ropE (P:List Ins)(v:Evi)(s:Sta)(f:Int):Int:=if rrE f=0 then openE P v s else rrE f
def xd_ (P:List Ins)(v:Evi)(s:Sta)(f:Int):RR:=if ropE P v s f=0 then runA P v f.toNat s Ins0 [] 0 else ⟨[],0,ropE P v s f,zeroSt,Ins0⟩
theorem ropE_zero {P:List Ins}{v:Evi}{s:Sta}{f:Int}(h:ropE P v s f=0):(0≤f∧f≤4096)∧openE P v s=0:=by
 unfold ropE at h
 by_cases q:rrE f=0
 ·rw[if_pos q]at h
  refine⟨?_,h⟩
  unfold rrE at q
  split at q<;>omega
 ·rw[if_neg q]at h;exact absurd h q
theorem openE_zero {P:List Ins}{v:Evi}{s:Sta}(h:openE P v s=0):(y8_ P).2=0∧v.rightB=true∧s.rightB P.length=true:=by
 unfold openE at h
 have q1:(y8_ P).2=0:=by
  by_cases q:(y8_ P).2=0
  ·exact q
  ·rw[if_pos q]at h;cases h
 rw[if_neg (fun h=>h q1)]at h
 have q2:v.rightB=true:=by
  cases q:v.rightB
  ·rw[if_pos q]at h;cases h
  ·rfl
 rw[if_neg (by rw[q2];exact Bool.noConfusion)]at h
 refine⟨q1,q2,?_⟩
 cases q:s.rightB P.length
 ·rw[if_pos q]at h;cases h
 ·rfl
end Go.Proofs.Ytjliakjbdcplcaa.Vm
end
section
open Go.Proofs.Ytjliakjbdcplcaa.Vm Go.RowKit
attribute [local push_cast] eqB eqBL allB prS zt_ i64S xo_ y3_ y2_ y1_ y0_ yz_ xn_ yy_ yx_ yw_ zy_ zv_ zw_ zu_ y5_ y4_ iOf
section
namespace Go.Proofs.Ytjliakjbdcplcaa.Vm
open Go.RowKit
section
variable {ρ : Nat→Nat} {h h':HM} {g c k a b:Nat} {s:Sta} {v:Evi} {x:Ins} {ok:Prop}
theorem bun_mac (hp:macP h g=some (s,v,x,c,k,ok))(hok:ok)(eg:h' g=h g)(ha:ρ a=c)(hb:ρ b=k):Bun1 ρ (h' g) (mB s v x a b):=by
 obtain⟨l,cf,sf,hg,hgl,_⟩:=mac_val hp hok
 show Less (h' g) (.own 164 ((macS s v x a b).ren ρ) true)
 rw[eg,hg,macS_ren,ha,hb]
 exact .val hgl (fun n k f e=>by cases e) (fun n k f e=>by cases e)
theorem bun_macR (hp:macP h g=some (s,v,x,c,k,ok))(hok:ok)(eg:h' g=h g)(ha:ρ a=c)(hb:ρ b=k):Bun1 ρ (h' g) (.ro (macS s v x a b)):=by
 obtain⟨l,cf,sf,hg,hgl,_⟩:=mac_val hp hok
 show Fit ρ _ _
 exact .ro (u:=.agg l) (by rw[eg,hg];rfl) (fun β=>by rw[macS_ren,ha,hb];exact hgl β) (fun n k f e=>by rw[macS_ren]at e;cases e)
theorem bun_cel (hp:macP h g=some (s,v,x,c,k,ok))(hok:ok)(ec:h' c=h c):Bun1 ρ (h' c) (cB s):=by
 obtain⟨l,cf,sf,hg,hgl,hc,hcl,_⟩:=mac_val hp hok
 show Less (h' c) (.own 2 (.arr s.cells.length 1 (i64S s.cells)) false)
 rw[ec,hc]
 exact .val (fun β=>arrCl (hcl β)) (fun n k f e=>by injection e with e1 e2 e3;subst e1 e2;exact⟨_,rfl⟩) (fun n k f e=>by injection e with e1 e2 e3;subst e1 e2;exact⟨_,rfl⟩)
theorem sndsS_ren (ρ : Nat→Nat)(l:List Snd):(fun q=>(zt_ l q).ren ρ)=zt_ l:=by
 funext q;unfold zt_;simp only[sndS,SV.ren,renL]
theorem bun_snd (hp:macP h g=some (s,v,x,c,k,ok))(hok:ok)(ek:h' k=h k):Bun1 ρ (h' k) (sB s):=by
 obtain⟨l,cf,sf,hg,hgl,hc,hcl,hk,hkl,_⟩:=mac_val hp hok
 show Less (h' k) (.own 64 (.arr s.sends.length 3 fun q=>(zt_ s.sends q).ren ρ) false)
 rw[ek,hk,sndsS_ren]
 exact .val (fun β=>arrCl (hkl β)) (fun n k f e=>by injection e with e1 e2 e3;subst e1 e2;exact⟨_,rfl⟩) (fun n k f e=>by injection e with e1 e2 e3;subst e1 e2;exact⟨_,rfl⟩)
theorem bun_cel0 (hp:macP h g=some (s,v,x,c,k,ok))(hok:ok)(ec:h' c=h c):Bun1 ρ (h' c) .gone:=by
 obtain⟨l,cf,sf,hg,hgl,hc,_⟩:=mac_val hp hok
 exact Fit.gone (by rw[ec,hc];rfl)
theorem bun_snd0 (hp:macP h g=some (s,v,x,c,k,ok))(hok:ok)(ek:h' k=h k):Bun1 ρ (h' k) .gone:=by
 obtain⟨l,cf,sf,hg,hgl,hc,_,hk,_⟩:=mac_val hp hok
 exact Fit.gone (by rw[ek,hk];rfl)
def prP (h:HM)(i:Nat):Option (Nat×List Ins×Prop):=match h i with
 | .own t (.arr n 5 f) false=>bif Nat.beq t 73 then some (n,ls zg_ n f,∀q,q < n→isIns (f q)=true)else none
 | _=>none
def prR (P:List Ins):HB:=.ro (.arr P.length 5 (prS P))
def prO (P:List Ins):HB:=.own 73 (.arr P.length 5 (prS P)) false
variable {i n:Nat} {P:List Ins}
theorem prP_len (hp:prP h i=some (n,P,ok)):n=P.length:=by
 unfold prP at hp
 split at hp
 ·obtain⟨hb,hs⟩:=zj_ hp
  simp only[Option.some.injEq,Prod.mk.injEq]at hs
  obtain⟨rfl,rfl,rfl⟩:=hs
  rw[zb_]
 ·cases hp
theorem bun_pr (hp:prP h i=some (n,P,ok))(hok:ok)(ei:h' i=h i):Bun1 ρ (h' i) (prR P):=by
 unfold prP at hp
 split at hp
 ·rename_i t n f hi
  obtain⟨hb,hs⟩:=zj_ hp
  simp only[Option.some.injEq,Prod.mk.injEq]at hs
  obtain⟨rfl,rfl,rfl⟩:=hs
  refine Fit.ro (u := .arr n 5 f) (by rw [ei, hi]; rfl) (fun β => ?_) (fun n1 k1 f1 e=>by
   simp only[SV.ren]at e
   injection e with e1 e2 e3
   rw[zb_]at e1
   subst e1 e2
   exact⟨_,rfl⟩)
  simp only[SV.ren,prS_ren,zb_]
  refine arrCl fun q hq=>?_
  unfold prS
  rw[isIns_cl (hok q hq),ls_getD hq,isIns_cl (zy_ _),zv_]
 ·cases hp
theorem bun_pr0 (hp:prP h i=some (n,P,ok))(ei:h' i=h i):Bun1 ρ (h' i) .gone:=by
 unfold prP at hp
 split at hp
 ·rename_i t n f hi
  exact Fit.gone (by rw[ei,hi];rfl)
 ·cases hp
end
def pS:yr_:=fun args h m=>match args with
 | [.ptr g [],.sl z i [] 5 0 n none]=>match macP h g,prP h i with
  | some (s,v,x,c,k,ok),some (n',P,ok2)=>bif Nat.beq z i && Nat.beq n n' && ym_ [0,g,c,k,i] then
    some ((ok∧ok2)∧PG P∧VOk v∧SG P s,.int .i64 (stepE P v s),[g,c,k,i],[(g,mB (stepS P v s) v (stepX P s x) c m),(c,cB (stepS P v s)),(k,.gone),(m,sB (stepS P v s))])else none
  | _,_=>none
 | _=>none
def cSt:FuncId→Option yr_:=xb_ [(116,mS doF)]
theorem cSt_ok:∀f S,cSt f=some S→zh_ Try.prog f S:=zn_ ⟨m_do,trivial⟩
theorem step_lit (P:List Ins)(s:Sta)(v:Evi)(x:Ins)(hP:PG P)(V:VOk v)(hS:SG P s):yc_ Try.prog 106 [.ptr 1 [],.sl 4 4 [] 5 0 P.length none] [.gone,mB s v x 2 3,cB s,sB s,prR P] (.int .i64 (stepE P v s))
  [.gone,mB (stepS P v s) v (stepX P s x) 2 5,cB (stepS P v s),.gone,.gone,sB (stepS P v s)]:=by
 have R:=hS.ri hP
 have S:=hS.sok hP
 have a0:=hS.a0
 have a1:=hS.a1
 have hlt:s.at_.toNat < P.length:=by omega
 have hl:=hP.len
 unfold insAt at R
 obtain⟨at0,en,rg,ce,dr,se⟩:=s
 dsimp only at a0 a1 hlt R
 cases en
 ·have e1:stepE P v ⟨at0,false,rg,ce,dr,se⟩=doE ⟨at0,false,rg,ce,dr,se⟩ v (P.getD at0.toNat ⟨0,0,0,0,0⟩):=rfl
  have e2:stepS P v ⟨at0,false,rg,ce,dr,se⟩=doS ⟨at0,false,rg,ce,dr,se⟩ v (P.getD at0.toNat ⟨0,0,0,0,0⟩):=rfl
  have e3:stepX P ⟨at0,false,rg,ce,dr,se⟩ x=P.getD at0.toNat ⟨0,0,0,0,0⟩:=rfl
  rw[e1,e2,e3]
  refine zm_ (fn:=Try.f106) 5 23 0 rfl rfl rfl rfl rfl (by simp only[zd_,Stable,hp,i64S,prS,insS,zt_,sndS,stS,evS,macS];simp[HB.born,mB,cB,sB,prR]) rfl fun w0 M E hro=>?_
  repeat' (first|refine Ctl.h ?_ |((with_reducible intro hif);first |(focus (cases hif;done)) |((try simp only[JH]at hif);try exact hy_)) |((with_reducible first|apply J22 cSt_ok za_|apply J23 fol cSt_ok za_|apply J24);(·rfl);(· exact k34_);(try kernel_rfl);try exact k12_)|fail)
  apply At.endsPick [0,1,2,3,4,5] za_ (fn:=Try.f106) (rs:=[.tmp 4]) Anc.refl hro (lb_ rfl) rfl
  ·exact k5_
  ·exact yq_
  ·rfl
  ·rfl
  ·rfl
  ·exact k24_
  ·rfl
  ·exact k8_
  ·exact k9_
  ·exact fun β=>rfl
  ·exact k8_
 ·have e1:stepE P v ⟨at0,true,rg,ce,dr,se⟩=183:=rfl
  have e2:stepS P v ⟨at0,true,rg,ce,dr,se⟩=⟨at0,true,rg,ce,dr,se⟩:=rfl
  have e3:stepX P ⟨at0,true,rg,ce,dr,se⟩ x=x:=rfl
  rw[e1,e2,e3]
  refine zm_ (fn:=Try.f106) 5 23 0 rfl rfl rfl rfl rfl (by simp only[zd_,Stable,hp,i64S,prS,insS,zt_,sndS,stS,evS,macS];simp[HB.born,mB,cB,sB,prR]) rfl fun w0 M E hro=>?_
  repeat' (first|refine Ctl.h ?_ |((with_reducible intro hif);first |(focus (cases hif;done)) |((try simp only[JH]at hif);try exact hy_)) |((with_reducible first|apply J22 cSt_ok za_|apply J23 fol cSt_ok za_|apply J24);(·rfl);(· exact k34_);(try kernel_rfl);try exact k12_)|fail)
  apply At.endsPick [0,1,2,3,4,3] za_ (fn:=Try.f106) (rs:=[.tmp 4]) Anc.refl hro (lb_ rfl) rfl
  ·exact k5_
  ·exact yq_
  ·rfl
  ·rfl
  ·rfl
  ·exact k24_
  ·rfl
  ·exact k8_
  ·exact k9_
  ·exact fun β=>rfl
  ·exact k8_
end Go.Proofs.Ytjliakjbdcplcaa.Vm
end
section
namespace Go.Proofs.Ytjliakjbdcplcaa.Vm
open Go.RowKit
theorem prR_st {h:HM}{P:List Ins}:(prR P).stable h:=fun q=>prS_stable q
theorem pS_ok:zh_ Try.prog 106 pS:=by
 refine⟨zf_ (by kernel_rfl),fun args h m c v rd wr hs hm hc w0 M β h' w R hrd hwr hst=>?_⟩
 unfold pS at hs
 split at hs
 ·rename_i g z i n
  split at hs
  ·rename_i s v x c k ok n' P ok2 hmp hpp
   obtain⟨hb,hs⟩:=zj_ hs
   simp only[Option.some.injEq,Prod.mk.injEq]at hs
   obtain⟨rfl,rfl,rfl,rfl⟩:=hs
   simp only[Bool.and_eq_true]at hb
   obtain⟨⟨hzi,hnn⟩,hnd⟩:=hb
   have hzi:=Nat.eq_of_beq_eq_true hzi
   have hnn:=Nat.eq_of_beq_eq_true hnn
   subst hzi hnn
   have hnl:=prP_len hpp
   obtain⟨⟨hok,hok2⟩,hP,hV,hS⟩:=hc
   have eg:=hrd g (by simp)
   have ec:=hrd c (by simp)
   have ek:=hrd k (by simp)
   have ei:=hrd z (by simp)
   exact bun_ok (h:=h) (m:=m) [0,g,c,k,z] (step_lit P s v x hP hV hS) R rfl (by simp) rfl rfl hnd
    ⟨Fit.gone (by rw[R.nil0];rfl),bun_mac hmp hok eg rfl rfl,bun_cel hmp hok ec,bun_snd hmp hok ek,bun_pr hpp hok2 ei,trivial⟩ hm
    (fun p hp=>by
     simp only[newB,List.drop,List.length_cons,List.length_nil,List.mem_cons,List.not_mem_nil,or_false]at hp
     subst hp
     exact hwr (m,sB (stepS P v s)) (by simp)) (by simp) rfl
    ⟨trivial,mB_st rfl rfl,cB_st,sB_st,prR_st,trivial⟩ ⟨rfl,⟨rfl,rfl⟩,trivial⟩
    ⟨trivial, mB_st rfl rfl, cB_st, trivial, prR_st, sB_st, trivial⟩ trivial (by rw [hnl]; rfl) rfl (by
     have e:y6_ [0,g,c,k,z] m 5=m:=by simp[y6_]
     show [(g,(mB _ v _ 2 5).ren _),(c,(cB _).ren _),(k,HB.gone.ren _),(m,(sB _).ren _)]=_
     rw[mB_ren,cB_ren,sB_ren,e];rfl)
  ·cases hs
 ·cases hs
def sCheck:yr_:=fun args h m=>match args with
 | [v1]=>match srcV h 5 (.tup []) v1 with
  | some (c1,n1,f1,r1)=>some (c1∧(∀q,q < n1→isIns (f1 q)=true)∧((∀x∈(ls zg_ n1 f1),x.ok))∧(n1≤281474976710656),.tup [.int .i64 (y8_ (ls zg_ n1 f1)).1,.int .i64 (y8_ (ls zg_ n1 f1)).2],r1,[])
  | _=>none
 | _=>none
theorem sCheck_ok:zh_ Try.prog 63 sCheck:=by
 refine⟨zf_ (by kernel_rfl),fun args h m c v rd wr hs hm hc w0 M β h' w R hrd hwr hst=>?_⟩
 unfold sCheck at hs
 split at hs
 ·rename_i v1
  split at hs
  ·rename_i c1 n1 f1 r1 a1
   simp only[Option.some.injEq,Prod.mk.injEq]at hs
   obtain⟨rfl,rfl,rfl,rfl⟩:=hs
   obtain⟨k1,g1,y1,y2⟩:=hc
   obtain⟨A1,p1,d1,e1,t1⟩:=zk_ R a1 k1 (fun i hi=>hrd i hi) (by omega)
   rw[elems_ins g1]at t1
   simp only[denL,yp_,yo_,yn_,z6_,d1]
   exact(check_c A1 n1 p1 (by omega) (ls zg_ n1 f1) y1 w t1).mono fun e w' he=>post_read R u2_ rfl he.1 he.2
  ·cases hs
 ·cases hs
def cOp:FuncId→Option yr_:=xb_ [(63,sCheck),(104,sVRight),(105,sSRight),(78,sCopied)]
theorem cOp_ok:∀f S,cOp f=some S→zh_ Try.prog f S:=zn_ ⟨sCheck_ok,sVRight_ok,sSRight_ok,sCopied_ok,trivial⟩
theorem less_mac0 {σ : Nat→Nat}{c k c' k':Nat}(s:Sta)(v:Evi)(hc:σ c=c')(hk:σ k=k') :
  Less (.own 164 (.agg [.agg [.int .i64 s.at_,.bool s.ended,.arr 8 1 (fun q=>.int .i64 (s.regs q)),.sl c' c' [] 1 0 s.cells.length none,.int .i64 s.draws,.sl k' k' [] 3 0 s.sends.length none],.agg [.int .u64 v.seed,.int .i64 v.process,.int .i64 v.ports,.int .i64 v.look,.int .i64 v.now],.agg [.nat .u8 0,.nat .u8 0,.nat .u8 0,.nat .u8 0,.nat .i64 0]]) true) ((mB s v Ins0 c k).ren σ):=by
 subst hc hk
 rw[mB_ren]
 exact .val (fun β=>rfl) (fun n k f e=>by cases e) (fun n k f e=>by cases e)
theorem open_good (P:List Ins)(v:Evi)(s:Sta)(p1 p2 p3:Nat)(hP:∀x∈P,x.ok)(hn:P.length≤281474976710656)(hc:s.cells.length≤1000000)(hs:s.sends.length≤1000000)(hE:openE P v s=0):yc_ Try.prog 72 [.sl 1 2 [] 5 0 P.length (some p1),.agg [.int .u64 v.seed,.int .i64 v.process,.int .i64 v.ports,.int .i64 v.look,.int .i64 v.now],.agg [.int .i64 s.at_,.bool s.ended,.arr 8 1 (fun q=>.int .i64 (s.regs q)),.sl 3 4 [] 1 0 s.cells.length (some p2),.int .i64 s.draws,.sl 5 6 [] 3 0 s.sends.length (some p3)]]
  [.gone,.gone,.ro (.arr P.length 5 (prS P)),.gone,.ro (.arr s.cells.length 1 (i64S s.cells)),.gone,.ro (.arr s.sends.length 3 (zt_ s.sends))]
  (.tup [.ptr 7 [],.int .i64 0]) [.gone,.gone,.gone,.gone,.gone,.gone,.gone,mB s v Ins0 8 9,cB s,sB s]:=by
 unfold openE at hE
 have q1:(y8_ P).2=0:=by
  by_cases q:(y8_ P).2=0
  ·exact q
  ·rw[if_pos q]at hE;cases hE
 rw[if_neg (fun h=>h q1)]at hE
 have q2:v.rightB=true:=by
  cases q:v.rightB
  ·rw[if_pos q]at hE;cases hE
  ·rfl
 rw[if_neg (by rw[q2];exact Bool.noConfusion)]at hE
 have q3:s.rightB P.length=true:=by
  cases q:s.rightB P.length
  ·rw[if_pos q]at hE;cases hE
  ·rfl
 refine zm_ (fn:=Try.f72) 7 32 0 rfl rfl rfl rfl rfl u4_ rfl fun w0 M E hro=>?_
 repeat' (first|refine Ctl.h ?_ |((with_reducible intro hif);first |(focus (cases hif;done)) |((try simp only[JH]at hif);try exact hy_)) |((with_reducible first|apply J22 cOp_ok za_|apply J23 fol cOp_ok za_|apply J24);(·rfl);(· exact k36_);(try kernel_rfl);try exact k35_)|fail)
 apply At.endsPick [0,1,2,3,4,5,6,11,9,10] za_ (fn:=Try.f72) (rs:=[.tmp 6,.tmp 7]) Anc.refl hro (lb_ rfl) rfl
 ·exact k5_
 ·exact yq_
 ·rfl
 ·rfl
 ·rfl
 ·(repeat' (first|exact trivial|exact .inl rfl|exact .inr (.same _)|exact .inr .loose|exact .inr (.arr (by assumption))|apply And.intro |(refine .inr (less_mac0 _ _ ?_ ?_)<;>rfl)))
 ·rfl
 ·exact k32_
 ·exact k9_
 ·exact fun β=>rfl
 ·exact k32_
theorem open_bad (P:List Ins)(v:Evi)(s:Sta)(p1 p2 p3:Nat)(hP:∀x∈P,x.ok)(hn:P.length≤281474976710656)(hc:s.cells.length≤1000000)(hs:s.sends.length≤1000000)(hE:openE P v s≠0):yc_ Try.prog 72 [.sl 1 2 [] 5 0 P.length (some p1),.agg [.int .u64 v.seed,.int .i64 v.process,.int .i64 v.ports,.int .i64 v.look,.int .i64 v.now],.agg [.int .i64 s.at_,.bool s.ended,.arr 8 1 (fun q=>.int .i64 (s.regs q)),.sl 3 4 [] 1 0 s.cells.length (some p2),.int .i64 s.draws,.sl 5 6 [] 3 0 s.sends.length (some p3)]]
  [.gone,.gone,.ro (.arr P.length 5 (prS P)),.gone,.ro (.arr s.cells.length 1 (i64S s.cells)),.gone,.ro (.arr s.sends.length 3 (zt_ s.sends))]
  (.tup [.nilp,.int .i64 (openE P v s)]) [.gone]:=by
 by_cases q1:(y8_ P).2=0
 ·cases q2:v.rightB
  ·have e:openE P v s=181:=by unfold openE;rw[if_neg (fun h=>h q1),if_pos q2]
   rw[e]
   refine zm_ (fn:=Try.f72) 7 32 0 rfl rfl rfl rfl rfl u4_ rfl fun w0 M E hro=>?_
   repeat' (first|refine Ctl.h ?_ |((with_reducible intro hif);first |(focus (cases hif;done)) |((try simp only[JH]at hif);try exact hy_)) |((with_reducible first|apply J22 cOp_ok za_|apply J23 fol cOp_ok za_|apply J24);(·rfl);(· (simp only[push_cast,↓JP,Nat.reduceAdd,Nat.reduceEqDiff,Nat.reduceLT,Nat.reduceMul,Nat.reduceLeDiff,reduceCtorEq,reduceIte,↓JK,JM,cOp,sCheck,sVRight,sSRight,sCopied,JE,inR,inN,q1,q2];rfl));(try kernel_rfl);try exact k35_)|fail)
   apply At.endsRet za_ (fn:=Try.f72) (rs:=[.tmp 6,.tmp 7]) Anc.refl hro (lb_ rfl) rfl
   ·exact k5_
   ·exact k6_
   ·exact k7_
   ·rfl
   ·exact k32_
   ·exact k9_
   ·exact fun β=>rfl
   ·exact k32_
  ·cases q3:s.rightB P.length
   ·have e:openE P v s=182:=by unfold openE;rw[if_neg (fun h=>h q1),if_neg (by rw[q2];exact Bool.noConfusion),if_pos q3]
    rw[e]
    refine zm_ (fn:=Try.f72) 7 32 0 rfl rfl rfl rfl rfl u4_ rfl fun w0 M E hro=>?_
    repeat' (first|refine Ctl.h ?_ |((with_reducible intro hif);first |(focus (cases hif;done)) |((try simp only[JH]at hif);try exact hy_)) |((with_reducible first|apply J22 cOp_ok za_|apply J23 fol cOp_ok za_|apply J24);(·rfl);(· exact k36_);(try kernel_rfl);try exact k35_)|fail)
    apply At.endsRet za_ (fn:=Try.f72) (rs:=[.tmp 6,.tmp 7]) Anc.refl hro (lb_ rfl) rfl
    ·exact k5_
    ·exact k6_
    ·exact k7_
    ·rfl
    ·exact k32_
    ·exact k9_
    ·exact fun β=>rfl
    ·exact k32_
   ·exact absurd (by unfold openE;rw[if_neg (fun h=>h q1),if_neg (by rw[q2];exact Bool.noConfusion),if_neg (by rw[q3];exact Bool.noConfusion)]) hE
 ·have e:openE P v s=180:=by unfold openE;rw[if_pos q1]
  rw[e]
  refine zm_ (fn:=Try.f72) 7 32 0 rfl rfl rfl rfl rfl u4_ rfl fun w0 M E hro=>?_
  repeat' (first|refine Ctl.h ?_ |((with_reducible intro hif);first |(focus (cases hif;done)) |((try simp only[JH]at hif);try exact hy_)) |((with_reducible first|apply J22 cOp_ok za_|apply J23 fol cOp_ok za_|apply J24);(·rfl);(· (simp only[push_cast,↓JP,Nat.reduceAdd,Nat.reduceEqDiff,Nat.reduceLT,Nat.reduceMul,Nat.reduceLeDiff,reduceCtorEq,reduceIte,↓JK,JM,cOp,sCheck,sVRight,sSRight,sCopied,JE,inR,inN,q1];rfl));(try kernel_rfl);try exact k35_)|fail)
  apply At.endsRet za_ (fn:=Try.f72) (rs:=[.tmp 6,.tmp 7]) Anc.refl hro (lb_ rfl) rfl
  ·exact k5_
  ·exact k6_
  ·exact k7_
  ·rfl
  ·exact k32_
  ·exact k9_
  ·exact fun β=>rfl
  ·exact k32_
def sOpenG:yr_:=fun args h m=>match args with
 | [v1,.agg [v2,v3,v4,v5,v6],.agg [v7,.bool v8,.arr 8 1 v9,v10,v11,v12]]=>match srcV h 5 (.tup []) v1,srcV h 1 (.tup []) v10,srcV h 3 (.tup []) v12 with
  | some (c1,n1,f1,r1),some (c10,n10,f10,r10),some (c12,n12,f12,r12)=>bif isI .u64 v2 && isI .i64 v3 && isI .i64 v4 && isI .i64 v5 && isI .i64 v6 && isI .i64 v7 && isI .i64 v11 then some (c1∧c10∧c12∧(∀q,q < n1→isIns (f1 q)=true)∧(∀q,q < n10→isI .i64 (f10 q)=true)∧(∀q,q < n12→isSnd (f12 q)=true)∧(∀q,q < 8→isI .i64 (v9 q)=true)∧((∀x∈(ls zg_ n1 f1),x.ok))∧(n1≤281474976710656)∧(n10≤1000000)∧(n12≤1000000)∧(openE (ls zg_ n1 f1) ⟨(iOf v2),(iOf v3),(iOf v4),(iOf v5),(iOf v6)⟩ ⟨(iOf v7),v8,(fun q=>iOf (v9 q)),(ls iOf n10 f10),(iOf v11),(ls xm_ n12 f12)⟩=0),.tup [.ptr m [],.int .i64 0],r1++r10++r12,[(m,mB ⟨(iOf v7),v8,(fun q=>iOf (v9 q)),(ls iOf n10 f10),(iOf v11),(ls xm_ n12 f12)⟩ ⟨(iOf v2),(iOf v3),(iOf v4),(iOf v5),(iOf v6)⟩ Ins0 (m+1) (m+2)),(m+1,cB ⟨(iOf v7),v8,(fun q=>iOf (v9 q)),(ls iOf n10 f10),(iOf v11),(ls xm_ n12 f12)⟩),(m+2,sB ⟨(iOf v7),v8,(fun q=>iOf (v9 q)),(ls iOf n10 f10),(iOf v11),(ls xm_ n12 f12)⟩)])else none
  | _,_,_=>none
 | _=>none
theorem sOpenG_ok:zh_ Try.prog 72 sOpenG:=by
 refine⟨zf_ (by kernel_rfl),fun args h m c v rd wr hs hm hc w0 M β h' w R hrd hwr hst=>?_⟩
 unfold sOpenG at hs
 split at hs
 ·rename_i v1 v2 v3 v4 v5 v6 v7 v8 v9 v10 v11 v12
  split at hs
  ·rename_i c1 n1 f1 r1 c10 n10 f10 r10 c12 n12 f12 r12 a1 a10 a12
   obtain⟨hb,hs⟩:=zj_ hs
   simp only[Option.some.injEq,Prod.mk.injEq]at hs
   obtain⟨rfl,rfl,rfl,rfl⟩:=hs
   simp only[Bool.and_eq_true]at hb
   obtain⟨⟨⟨⟨⟨⟨b2,b3⟩,b4⟩,b5⟩,b6⟩,b7⟩,b11⟩:=hb
   obtain⟨k1,k10,k12,g1,g10,g12,g9,y1,y2,y3,y4,y5⟩:=hc
   obtain⟨A1,p1,d1,e1,t1⟩:=zk_ R a1 k1 (fun i hi=>hrd i (List.mem_append_left _ (List.mem_append_left _ hi))) (by omega)
   obtain⟨A10,p10,d10,e10,t10⟩:=zk_ R a10 k10 (fun i hi=>hrd i (List.mem_append_left _ (List.mem_append_right _ hi))) (by omega)
   obtain⟨A12,p12,d12,e12,t12⟩:=zk_ R a12 k12 (fun i hi=>hrd i (List.mem_append_right _ hi)) (by omega)
   refine y9_ (views:=[⟨5,(ls zg_ n1 f1).length,prS (ls zg_ n1 f1),A1,p1⟩,⟨1,(ls iOf n10 f10).length,i64S (ls iOf n10 f10),A10,p10⟩,⟨3,(ls xm_ n12 f12).length,zt_ (ls xm_ n12 f12),A12,p12⟩]) (open_good (ls zg_ n1 f1) ⟨(iOf v2),(iOf v3),(iOf v4),(iOf v5),(iOf v6)⟩ ⟨(iOf v7),v8,(fun q=>iOf (v9 q)),(ls iOf n10 f10),(iOf v11),(ls xm_ n12 f12)⟩ p1 p10 p12 y1 (by rw[zb_];exact y2) (by rw[zb_];exact y3) (by rw[zb_];exact y4) y5) ?_ R hm hwr ?_ ?_ ?_
   ·exact d19_
   ·exact d20_
   ·exact k32_
   ·exact k32_
  ·cases hs
 ·cases hs
def sOpenB:yr_:=fun args h m=>match args with
 | [v1,.agg [v2,v3,v4,v5,v6],.agg [v7,.bool v8,.arr 8 1 v9,v10,v11,v12]]=>match srcV h 5 (.tup []) v1,srcV h 1 (.tup []) v10,srcV h 3 (.tup []) v12 with
  | some (c1,n1,f1,r1),some (c10,n10,f10,r10),some (c12,n12,f12,r12)=>bif isI .u64 v2 && isI .i64 v3 && isI .i64 v4 && isI .i64 v5 && isI .i64 v6 && isI .i64 v7 && isI .i64 v11 then some (c1∧c10∧c12∧(∀q,q < n1→isIns (f1 q)=true)∧(∀q,q < n10→isI .i64 (f10 q)=true)∧(∀q,q < n12→isSnd (f12 q)=true)∧(∀q,q < 8→isI .i64 (v9 q)=true)∧((∀x∈(ls zg_ n1 f1),x.ok))∧(n1≤281474976710656)∧(n10≤1000000)∧(n12≤1000000)∧(openE (ls zg_ n1 f1) ⟨(iOf v2),(iOf v3),(iOf v4),(iOf v5),(iOf v6)⟩ ⟨(iOf v7),v8,(fun q=>iOf (v9 q)),(ls iOf n10 f10),(iOf v11),(ls xm_ n12 f12)⟩≠0),.tup [.nilp,.int .i64 (openE (ls zg_ n1 f1) ⟨(iOf v2),(iOf v3),(iOf v4),(iOf v5),(iOf v6)⟩ ⟨(iOf v7),v8,(fun q=>iOf (v9 q)),(ls iOf n10 f10),(iOf v11),(ls xm_ n12 f12)⟩)],r1++r10++r12,[])else none
  | _,_,_=>none
 | _=>none
theorem sOpenB_ok:zh_ Try.prog 72 sOpenB:=by
 refine⟨zf_ (by kernel_rfl),fun args h m c v rd wr hs hm hc w0 M β h' w R hrd hwr hst=>?_⟩
 unfold sOpenB at hs
 split at hs
 ·rename_i v1 v2 v3 v4 v5 v6 v7 v8 v9 v10 v11 v12
  split at hs
  ·rename_i c1 n1 f1 r1 c10 n10 f10 r10 c12 n12 f12 r12 a1 a10 a12
   obtain⟨hb,hs⟩:=zj_ hs
   simp only[Option.some.injEq,Prod.mk.injEq]at hs
   obtain⟨rfl,rfl,rfl,rfl⟩:=hs
   simp only[Bool.and_eq_true]at hb
   obtain⟨⟨⟨⟨⟨⟨b2,b3⟩,b4⟩,b5⟩,b6⟩,b7⟩,b11⟩:=hb
   obtain⟨k1,k10,k12,g1,g10,g12,g9,y1,y2,y3,y4,y5⟩:=hc
   obtain⟨A1,p1,d1,e1,t1⟩:=zk_ R a1 k1 (fun i hi=>hrd i (List.mem_append_left _ (List.mem_append_left _ hi))) (by omega)
   obtain⟨A10,p10,d10,e10,t10⟩:=zk_ R a10 k10 (fun i hi=>hrd i (List.mem_append_left _ (List.mem_append_right _ hi))) (by omega)
   obtain⟨A12,p12,d12,e12,t12⟩:=zk_ R a12 k12 (fun i hi=>hrd i (List.mem_append_right _ hi)) (by omega)
   refine y9_ (views:=[⟨5,(ls zg_ n1 f1).length,prS (ls zg_ n1 f1),A1,p1⟩,⟨1,(ls iOf n10 f10).length,i64S (ls iOf n10 f10),A10,p10⟩,⟨3,(ls xm_ n12 f12).length,zt_ (ls xm_ n12 f12),A12,p12⟩]) (open_bad (ls zg_ n1 f1) ⟨(iOf v2),(iOf v3),(iOf v4),(iOf v5),(iOf v6)⟩ ⟨(iOf v7),v8,(fun q=>iOf (v9 q)),(ls iOf n10 f10),(iOf v11),(ls xm_ n12 f12)⟩ p1 p10 p12 y1 (by rw[zb_];exact y2) (by rw[zb_];exact y3) (by rw[zb_];exact y4) y5) ?_ R hm hwr ?_ ?_ ?_
   ·exact d19_
   ·exact d20_
   ·exact k32_
   ·exact k32_
  ·cases hs
 ·cases hs
def eB (g i n:Nat):HB:=.own 161 (.agg [.ptr g [],.sl i i [] 5 0 n none]) true
def cBg:FuncId→Option yr_:=xb_ [(50,sCl64)]
theorem cBg_ok:∀f S,cBg f=some S→zh_ Try.prog f S:=zn_ ⟨sCl64_ok,trivial⟩
theorem begin_lit (t s q o y d:Int)(cs:List Int)(p:Nat)(hc:cs.length≤1000000):yc_ Try.prog 24 [.agg [.agg [.int .i64 t,.int .i64 s,.int .i64 q],.int .i64 o,.int .i64 y],.sl 1 2 [] 1 0 cs.length (some p),.int .i64 d] [.gone,.gone,.ro (.arr cs.length 1 (i64S cs))]
  (.agg [.int .i64 0,.bool false,.arr 8 1 (fun j=>.int .i64 (begR y t s j)),.sl 3 3 [] 1 0 cs.length none,.int .i64 d,.sl 0 0 [] 0 0 0 (some 0)]) [.gone,.gone,.gone,.own 2 (.arr cs.length 1 (i64S cs)) false]:=by
 refine zm_ (fn:=Try.f24) 3 20 0 rfl rfl rfl rfl rfl u5_ rfl fun w0 M E hro=>?_
 repeat' (first|refine Ctl.h ?_ |((with_reducible intro hif);first |(focus (cases hif;done)) |((try simp only[JH]at hif);try exact hy_)) |((with_reducible first|apply J22 cBg_ok za_|apply J23 fol cBg_ok za_|apply J24);(·rfl);(· (simp only[push_cast,↓JP,Nat.reduceAdd,Nat.reduceEqDiff,Nat.reduceLT,Nat.reduceMul,Nat.reduceLeDiff,reduceCtorEq,reduceIte,↓JK,JM,cBg,sCl64,JE,inR,inN];rfl));(try kernel_rfl);try exact k12_)|fail)
 apply At.endsPick [0,1,2,5] za_ (fn:=Try.f24) (rs:=[.cell 6 58]) Anc.refl hro (lb_ rfl) rfl
 ·exact k5_
 ·exact yq_
 ·rfl
 ·rfl
 ·rfl
 ·exact k24_
 ·rfl
 ·exact k33_
 ·exact k9_
 ·exact fun β=>rfl
 ·exact k33_
def sBegin:yr_:=fun args h m=>match args with
 | [.agg [.agg [v1,v2,v3],v4,v5],v6,v7]=>match srcV h 1 (.tup []) v6 with
  | some (c6,n6,f6,r6)=>bif isI .i64 v1 && isI .i64 v2 && isI .i64 v3 && isI .i64 v4 && isI .i64 v5 && isI .i64 v7 then some (c6∧(∀q,q < n6→isI .i64 (f6 q)=true)∧(n6≤1000000),.agg [.int .i64 0,.bool false,.arr 8 1 (fun j=>.int .i64 (begR (iOf v5) (iOf v1) (iOf v2) j)),.sl m m [] 1 0 (ls iOf n6 f6).length none,.int .i64 (iOf v7),.sl 0 0 [] 0 0 0 (some 0)],r6,[(m,.own 2 (.arr (ls iOf n6 f6).length 1 (i64S (ls iOf n6 f6))) false)])else none
  | _=>none
 | _=>none
theorem sBegin_ok:zh_ Try.prog 24 sBegin:=by
 refine⟨zf_ (by kernel_rfl),fun args h m c v rd wr hs hm hc w0 M β h' w R hrd hwr hst=>?_⟩
 unfold sBegin at hs
 split at hs
 ·rename_i v1 v2 v3 v4 v5 v6 v7
  split at hs
  ·rename_i c6 n6 f6 r6 a6
   obtain⟨hb,hs⟩:=zj_ hs
   simp only[Option.some.injEq,Prod.mk.injEq]at hs
   obtain⟨rfl,rfl,rfl,rfl⟩:=hs
   simp only[Bool.and_eq_true]at hb
   obtain⟨⟨⟨⟨⟨b1,b2⟩,b3⟩,b4⟩,b5⟩,b7⟩:=hb
   obtain⟨k6,g6,y1⟩:=hc
   obtain⟨A6,p6,d6,e6,t6⟩:=zk_ R a6 k6 (fun i hi=>hrd i hi) (by omega)
   refine y9_ (views:=[⟨1,(ls iOf n6 f6).length,i64S (ls iOf n6 f6),A6,p6⟩]) (begin_lit (iOf v1) (iOf v2) (iOf v3) (iOf v4) (iOf v5) (iOf v7) (ls iOf n6 f6) p6 (by rw[zb_];exact y1)) ?_ R hm hwr ?_ ?_ ?_
   ·intro x hx
    simp only[List.mem_cons,List.not_mem_nil,or_false]at hx
    subst hx
    ·exact xl_ t6 e6 g6
   ·intro β1 hv
    simp only[Vd,zb_,and_true]at hv
    have z6:=hv
    simp only[denL,yp_,yo_,yn_,z6_,zb_,z6,d6,zc_ b1,zc_ b2,zc_ b3,zc_ b4,zc_ b5,zc_ b7]
   ·exact k33_
   ·exact k33_
  ·cases hs
 ·cases hs
def cOn:FuncId→Option yr_:=xb_ [(72,sOpenG),(43,sClI)]
theorem cOn_ok:∀f S,cOn f=some S→zh_ Try.prog f S:=zn_ ⟨sOpenG_ok,sClI_ok,trivial⟩
theorem Open_good (P:List Ins)(v:Evi)(s:Sta)(p1 p2 p3:Nat)(hP:∀x∈P,x.ok)(hn:P.length≤1000000)(hc:s.cells.length≤1000000)(hs:s.sends.length≤1000000)(hE:openE P v s=0):yc_ Try.prog 45 [.sl 1 2 [] 5 0 P.length (some p1),.agg [.int .u64 v.seed,.int .i64 v.process,.int .i64 v.ports,.int .i64 v.look,.int .i64 v.now],.agg [.int .i64 s.at_,.bool s.ended,.arr 8 1 (fun q=>.int .i64 (s.regs q)),.sl 3 4 [] 1 0 s.cells.length (some p2),.int .i64 s.draws,.sl 5 6 [] 3 0 s.sends.length (some p3)]]
  [.gone,.gone,.ro (.arr P.length 5 (prS P)),.gone,.ro (.arr s.cells.length 1 (i64S s.cells)),.gone,.ro (.arr s.sends.length 3 (zt_ s.sends))]
  (.tup [.ptr 7 [],.int .i64 0]) [.gone,.gone,.gone,.gone,.gone,.gone,.gone,eB 8 11 P.length,mB s v Ins0 9 10,cB s,sB s,prO P]:=by
 have hn2:P.length≤281474976710656:=by omega
 refine zm_ (fn:=Try.f45) 7 25 0 rfl rfl rfl rfl rfl u5_ rfl fun w0 M E hro=>?_
 repeat' (first|refine Ctl.h ?_ |((with_reducible intro hif);first |(focus (cases hif;done)) |((try simp only[JH]at hif);try exact hy_)) |((with_reducible first|apply J22 cOn_ok za_|apply J23 fol cOn_ok za_|apply J24);(·rfl);(· (simp only[push_cast,↓JP,Nat.reduceAdd,Nat.reduceEqDiff,Nat.reduceLT,Nat.reduceMul,Nat.reduceLeDiff,reduceCtorEq,reduceIte,↓JK,cOn,sOpenG,sClI,JE,inR,inN,hE];rfl));(try kernel_rfl);try exact k37_)|fail)
 apply At.endsPick [0,1,2,3,4,5,6,13,9,10,11,12] za_ (fn:=Try.f45) (rs:=[.tmp 6,.tmp 7]) Anc.refl hro (lb_ rfl) rfl
 ·exact k5_
 ·exact yq_
 ·rfl
 ·rfl
 ·rfl
 ·exact k24_
 ·rfl
 ·exact k33_
 ·exact k9_
 ·exact fun β=>rfl
 ·exact k33_
def cOb:FuncId→Option yr_:=xb_ [(72,sOpenB),(43,sClI)]
theorem cOb_ok:∀f S,cOb f=some S→zh_ Try.prog f S:=zn_ ⟨sOpenB_ok,sClI_ok,trivial⟩
theorem Open_bad (P:List Ins)(v:Evi)(s:Sta)(p1 p2 p3:Nat)(hP:∀x∈P,x.ok)(hn:P.length≤1000000)(hc:s.cells.length≤1000000)(hs:s.sends.length≤1000000)(hE:openE P v s≠0):yc_ Try.prog 45 [.sl 1 2 [] 5 0 P.length (some p1),.agg [.int .u64 v.seed,.int .i64 v.process,.int .i64 v.ports,.int .i64 v.look,.int .i64 v.now],.agg [.int .i64 s.at_,.bool s.ended,.arr 8 1 (fun q=>.int .i64 (s.regs q)),.sl 3 4 [] 1 0 s.cells.length (some p2),.int .i64 s.draws,.sl 5 6 [] 3 0 s.sends.length (some p3)]]
  [.gone,.gone,.ro (.arr P.length 5 (prS P)),.gone,.ro (.arr s.cells.length 1 (i64S s.cells)),.gone,.ro (.arr s.sends.length 3 (zt_ s.sends))]
  (.tup [.nilp,.int .i64 (openE P v s)]) [.gone]:=by
 have hn2:P.length≤281474976710656:=by omega
 refine zm_ (fn:=Try.f45) 7 25 0 rfl rfl rfl rfl rfl u5_ rfl fun w0 M E hro=>?_
 repeat' (first|refine Ctl.h ?_ |((with_reducible intro hif);first |(focus (cases hif;done)) |((try simp only[JH]at hif);try exact hy_)) |((with_reducible first|apply J22 cOb_ok za_|apply J23 fol cOb_ok za_|apply J24);(·rfl);(· (simp only[push_cast,↓JP,Nat.reduceAdd,Nat.reduceEqDiff,Nat.reduceLT,Nat.reduceMul,Nat.reduceLeDiff,reduceCtorEq,reduceIte,↓JK,cOb,sOpenB,sClI,JE,inR,inN,hE];rfl));(try kernel_rfl);try exact k37_)|fail)
 apply At.endsRet za_ (fn:=Try.f45) (rs:=[.tmp 6,.tmp 7]) Anc.refl hro (lb_ rfl) rfl
 ·exact k5_
 ·exact k6_
 ·exact k7_
 ·rfl
 ·exact k33_
 ·exact k9_
 ·exact fun β=>rfl
 ·exact k33_
def sOnG:yr_:=fun args h m=>match args with
 | [v1,.agg [v2,v3,v4,v5,v6],.agg [v7,.bool v8,.arr 8 1 v9,v10,v11,v12]]=>match srcV h 5 (.tup []) v1,srcV h 1 (.tup []) v10,srcV h 3 (.tup []) v12 with
  | some (c1,n1,f1,r1),some (c10,n10,f10,r10),some (c12,n12,f12,r12)=>bif isI .u64 v2 && isI .i64 v3 && isI .i64 v4 && isI .i64 v5 && isI .i64 v6 && isI .i64 v7 && isI .i64 v11 then some (c1∧c10∧c12∧(∀q,q < n1→isIns (f1 q)=true)∧(∀q,q < n10→isI .i64 (f10 q)=true)∧(∀q,q < n12→isSnd (f12 q)=true)∧(∀q,q < 8→isI .i64 (v9 q)=true)∧((∀x∈(ls zg_ n1 f1),x.ok))∧(n1≤1000000)∧(n10≤1000000)∧(n12≤1000000)∧(openE (ls zg_ n1 f1) ⟨(iOf v2),(iOf v3),(iOf v4),(iOf v5),(iOf v6)⟩ ⟨(iOf v7),v8,(fun q=>iOf (v9 q)),(ls iOf n10 f10),(iOf v11),(ls xm_ n12 f12)⟩=0),.tup [.ptr m [],.int .i64 0],r1++r10++r12,[(m,eB (m+1) (m+4) (ls zg_ n1 f1).length),(m+1,mB ⟨(iOf v7),v8,(fun q=>iOf (v9 q)),(ls iOf n10 f10),(iOf v11),(ls xm_ n12 f12)⟩ ⟨(iOf v2),(iOf v3),(iOf v4),(iOf v5),(iOf v6)⟩ Ins0 (m+2) (m+3)),(m+2,cB ⟨(iOf v7),v8,(fun q=>iOf (v9 q)),(ls iOf n10 f10),(iOf v11),(ls xm_ n12 f12)⟩),(m+3,sB ⟨(iOf v7),v8,(fun q=>iOf (v9 q)),(ls iOf n10 f10),(iOf v11),(ls xm_ n12 f12)⟩),(m+4,prO (ls zg_ n1 f1))])else none
  | _,_,_=>none
 | _=>none
theorem sOnG_ok:zh_ Try.prog 45 sOnG:=by
 refine⟨zf_ (by kernel_rfl),fun args h m c v rd wr hs hm hc w0 M β h' w R hrd hwr hst=>?_⟩
 unfold sOnG at hs
 split at hs
 ·rename_i v1 v2 v3 v4 v5 v6 v7 v8 v9 v10 v11 v12
  split at hs
  ·rename_i c1 n1 f1 r1 c10 n10 f10 r10 c12 n12 f12 r12 a1 a10 a12
   obtain⟨hb,hs⟩:=zj_ hs
   simp only[Option.some.injEq,Prod.mk.injEq]at hs
   obtain⟨rfl,rfl,rfl,rfl⟩:=hs
   simp only[Bool.and_eq_true]at hb
   obtain⟨⟨⟨⟨⟨⟨b2,b3⟩,b4⟩,b5⟩,b6⟩,b7⟩,b11⟩:=hb
   obtain⟨k1,k10,k12,g1,g10,g12,g9,y1,y2,y3,y4,y5⟩:=hc
   obtain⟨A1,p1,d1,e1,t1⟩:=zk_ R a1 k1 (fun i hi=>hrd i (List.mem_append_left _ (List.mem_append_left _ hi))) (by omega)
   obtain⟨A10,p10,d10,e10,t10⟩:=zk_ R a10 k10 (fun i hi=>hrd i (List.mem_append_left _ (List.mem_append_right _ hi))) (by omega)
   obtain⟨A12,p12,d12,e12,t12⟩:=zk_ R a12 k12 (fun i hi=>hrd i (List.mem_append_right _ hi)) (by omega)
   refine y9_ (views:=[⟨5,(ls zg_ n1 f1).length,prS (ls zg_ n1 f1),A1,p1⟩,⟨1,(ls iOf n10 f10).length,i64S (ls iOf n10 f10),A10,p10⟩,⟨3,(ls xm_ n12 f12).length,zt_ (ls xm_ n12 f12),A12,p12⟩]) (Open_good (ls zg_ n1 f1) ⟨(iOf v2),(iOf v3),(iOf v4),(iOf v5),(iOf v6)⟩ ⟨(iOf v7),v8,(fun q=>iOf (v9 q)),(ls iOf n10 f10),(iOf v11),(ls xm_ n12 f12)⟩ p1 p10 p12 y1 (by rw[zb_];exact y2) (by rw[zb_];exact y3) (by rw[zb_];exact y4) y5) ?_ R hm hwr ?_ ?_ ?_
   ·exact d19_
   ·exact d20_
   ·exact k33_
   ·exact k33_
  ·cases hs
 ·cases hs
def sOnB:yr_:=fun args h m=>match args with
 | [v1,.agg [v2,v3,v4,v5,v6],.agg [v7,.bool v8,.arr 8 1 v9,v10,v11,v12]]=>match srcV h 5 (.tup []) v1,srcV h 1 (.tup []) v10,srcV h 3 (.tup []) v12 with
  | some (c1,n1,f1,r1),some (c10,n10,f10,r10),some (c12,n12,f12,r12)=>bif isI .u64 v2 && isI .i64 v3 && isI .i64 v4 && isI .i64 v5 && isI .i64 v6 && isI .i64 v7 && isI .i64 v11 then some (c1∧c10∧c12∧(∀q,q < n1→isIns (f1 q)=true)∧(∀q,q < n10→isI .i64 (f10 q)=true)∧(∀q,q < n12→isSnd (f12 q)=true)∧(∀q,q < 8→isI .i64 (v9 q)=true)∧((∀x∈(ls zg_ n1 f1),x.ok))∧(n1≤1000000)∧(n10≤1000000)∧(n12≤1000000)∧(openE (ls zg_ n1 f1) ⟨(iOf v2),(iOf v3),(iOf v4),(iOf v5),(iOf v6)⟩ ⟨(iOf v7),v8,(fun q=>iOf (v9 q)),(ls iOf n10 f10),(iOf v11),(ls xm_ n12 f12)⟩≠0),.tup [.nilp,.int .i64 (openE (ls zg_ n1 f1) ⟨(iOf v2),(iOf v3),(iOf v4),(iOf v5),(iOf v6)⟩ ⟨(iOf v7),v8,(fun q=>iOf (v9 q)),(ls iOf n10 f10),(iOf v11),(ls xm_ n12 f12)⟩)],r1++r10++r12,[])else none
  | _,_,_=>none
 | _=>none
theorem sOnB_ok:zh_ Try.prog 45 sOnB:=by
 refine⟨zf_ (by kernel_rfl),fun args h m c v rd wr hs hm hc w0 M β h' w R hrd hwr hst=>?_⟩
 unfold sOnB at hs
 split at hs
 ·rename_i v1 v2 v3 v4 v5 v6 v7 v8 v9 v10 v11 v12
  split at hs
  ·rename_i c1 n1 f1 r1 c10 n10 f10 r10 c12 n12 f12 r12 a1 a10 a12
   obtain⟨hb,hs⟩:=zj_ hs
   simp only[Option.some.injEq,Prod.mk.injEq]at hs
   obtain⟨rfl,rfl,rfl,rfl⟩:=hs
   simp only[Bool.and_eq_true]at hb
   obtain⟨⟨⟨⟨⟨⟨b2,b3⟩,b4⟩,b5⟩,b6⟩,b7⟩,b11⟩:=hb
   obtain⟨k1,k10,k12,g1,g10,g12,g9,y1,y2,y3,y4,y5⟩:=hc
   obtain⟨A1,p1,d1,e1,t1⟩:=zk_ R a1 k1 (fun i hi=>hrd i (List.mem_append_left _ (List.mem_append_left _ hi))) (by omega)
   obtain⟨A10,p10,d10,e10,t10⟩:=zk_ R a10 k10 (fun i hi=>hrd i (List.mem_append_left _ (List.mem_append_right _ hi))) (by omega)
   obtain⟨A12,p12,d12,e12,t12⟩:=zk_ R a12 k12 (fun i hi=>hrd i (List.mem_append_right _ hi)) (by omega)
   refine y9_ (views:=[⟨5,(ls zg_ n1 f1).length,prS (ls zg_ n1 f1),A1,p1⟩,⟨1,(ls iOf n10 f10).length,i64S (ls iOf n10 f10),A10,p10⟩,⟨3,(ls xm_ n12 f12).length,zt_ (ls xm_ n12 f12),A12,p12⟩]) (Open_bad (ls zg_ n1 f1) ⟨(iOf v2),(iOf v3),(iOf v4),(iOf v5),(iOf v6)⟩ ⟨(iOf v7),v8,(fun q=>iOf (v9 q)),(ls iOf n10 f10),(iOf v11),(ls xm_ n12 f12)⟩ p1 p10 p12 y1 (by rw[zb_];exact y2) (by rw[zb_];exact y3) (by rw[zb_];exact y4) y5) ?_ R hm hwr ?_ ?_ ?_
   ·exact d19_
   ·exact d20_
   ·exact k33_
   ·exact k33_
  ·cases hs
 ·cases hs
end Go.Proofs.Ytjliakjbdcplcaa.Vm
end
end

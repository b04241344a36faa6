import Derived.Test.YtjliakjbdcplcaaU1
import Derived.Test.YtjliakjbdcplcaaU12
import Derived.Test.YtjliakjbdcplcaaU17
set_option linter.unusedSimpArgs false
set_option linter.unusedVariables false
set_option maxRecDepth 100000
set_option maxHeartbeats 4000000
section
open Go.Proofs.Ytjliakjbdcplcaa.Vm Go.RowKit
attribute [local push_cast] eqB eqBL allB prS zt_ i64S xo_ y3_ y2_ y1_ y0_ yz_ xn_ yy_ yx_ yw_ zy_ zv_ zw_ zu_ y5_ y4_ iOf
section
namespace Go.Proofs.Ytjliakjbdcplcaa.Vm
open Go.RowKit
def eS (g i n:Nat):SV:=.agg [.ptr g [],.sl i i [] 5 0 n none]
section
variable {ρ : Nat→Nat} {h h':HM} {g c k e i n:Nat} {s:Sta} {v:Evi} {x:Ins} {P:List Ins} {ok:Prop}
theorem bun_celR (hp:macP h g=some (s,v,x,c,k,ok))(hok:ok)(ec:h' c=h c):Bun1 ρ (h' c) (.ro (.arr s.cells.length 1 (i64S s.cells))):=by
 obtain⟨l,cf,sf,hg,hgl,hc,hcl,_⟩:=mac_val hp hok
 exact Fit.ro (u:=.arr s.cells.length 1 cf) (by rw[ec,hc];rfl) (fun β=>arrCl (hcl β)) (fun n k f e=>by injection e with e1 e2 e3;subst e1 e2;exact⟨_,rfl⟩)
theorem bun_sndR (hp:macP h g=some (s,v,x,c,k,ok))(hok:ok)(ek:h' k=h k):Bun1 ρ (h' k) (.ro (.arr s.sends.length 3 (zt_ s.sends))):=by
 obtain⟨l,cf,sf,hg,hgl,hc,hcl,hk,hkl,_⟩:=mac_val hp hok
 exact Fit.ro (u:=.arr s.sends.length 3 sf) (by rw[ek,hk];rfl) (fun β=>by simp only[SV.ren,sndsS_ren];exact arrCl (hkl β)) (fun n k f e=>by simp only[SV.ren]at e;injection e with e1 e2 e3;subst e1 e2;exact⟨_,rfl⟩)
def engP (h:HM)(e:Nat):Option (Sta×Evi×Ins×List Ins×(Nat×Nat×Nat×Nat)×Prop):=match h e with
 | .own t (.agg [.ptr g [],.sl z i [] 5 0 n none]) true=>match macP h g,prP h i with
  | some (s,v,x,c,k,ok),some (n',P,ok2)=>bif Nat.beq t 161 && (Nat.beq z i && Nat.beq n n') && ym_ [0,e,g,c,k,i] then some (s,v,x,P,(g,c,k,i),ok∧ok2)else none
  | _,_=>none
 | _=>none
theorem engP_val {q:Nat×Nat×Nat×Nat}(hp:engP h e=some (s,v,x,P,q,ok)):∃ok1 ok2,ok=(ok1∧ok2)∧macP h q.1=some (s,v,x,q.2.1,q.2.2.1,ok1)∧prP h q.2.2.2=some (P.length,P,ok2)∧h e=.own 161 (eS q.1 q.2.2.2 P.length) true∧ym_ [0,e,q.1,q.2.1,q.2.2.1,q.2.2.2]=true:=by
 unfold engP at hp
 split at hp
 ·rename_i t g z i n he
  split at hp
  ·rename_i s v x c k ok1 n' P ok2 hmp hpp
   obtain⟨hb,hs⟩:=zj_ hp
   simp only[Option.some.injEq,Prod.mk.injEq]at hs
   obtain⟨rfl,rfl,rfl,rfl,rfl,rfl⟩:=hs
   simp only[Bool.and_eq_true]at hb
   obtain⟨⟨b1,b2,b3⟩,b4⟩:=hb
   have b1:=Nat.eq_of_beq_eq_true b1
   have b2:=Nat.eq_of_beq_eq_true b2
   have b3:=Nat.eq_of_beq_eq_true b3
   subst b1 b2 b3
   have hl:=prP_len hpp
   subst hl
   exact⟨ok1,ok2,rfl,hmp,hpp,he,b4⟩
  ·cases hp
 ·cases hp
theorem bun_eng {t g i n a b:Nat}{ex:Bool}(he:h e=.own t (eS g i n) ex)(ee:h' e=h e)(ha:ρ a=g)(hb:ρ b=i):Bun1 ρ (h' e) (.ro (eS a b n)):=by
 exact Fit.ro (u:=eS g i n) (by rw[ee,he];rfl) (fun β=>by simp only[eS,SV.ren,renL,ha,hb]) (fun n k f e=>by cases e)
end
def eN:yr_:=fun args h m=>match args with
 | [.ptr e []]=>match h e with
  | .own t (.agg [.ptr g [],.sl z i [] 5 0 n none]) true=>bif (h g).born && (h i).born && Nat.beq z i then some (True,.bool false,[e,g,i],[])else none
  | _=>none
 | _=>none
theorem none_lit (n:Nat):yc_ Try.prog 77 [.ptr 1 []] [.gone,.ro (eS 2 3 n),.gone,.gone] (.bool false) [.gone,.gone,.gone,.gone]:=by
 refine zm_ (fn:=Try.f77) 4 12 0 rfl rfl rfl rfl rfl u6_ rfl fun w0 M E hro=>?_
 repeat' (first|refine Ctl.h ?_ |((with_reducible intro hif);first |(focus (cases hif;done)) |((try simp only[JH]at hif);try exact hy_)) |((with_reducible first|apply J22 c1_ok za_|apply J23 fol c1_ok za_|apply J24);(·rfl);(· (simp only[push_cast,↓JP,Nat.reduceAdd,Nat.reduceEqDiff,Nat.reduceLT,Nat.reduceMul,Nat.reduceLeDiff,reduceCtorEq,reduceIte,↓JK,eS,inR,inN];rfl));(try kernel_rfl);try exact k12_)|fail)
 apply At.endsPick [0,1,2,3] za_ (fn:=Try.f77) (rs:=[.tmp 2]) Anc.refl hro (lb_ rfl) rfl
 ·exact k5_
 ·exact yq_
 ·rfl
 ·rfl
 ·rfl
 ·exact k24_
 ·rfl
 ·exact k38_
 ·exact k9_
 ·exact fun β=>rfl
 ·exact k38_
theorem eN_ok:zh_ Try.prog 77 eN:=by
 refine⟨zf_ (by kernel_rfl),fun args h m c v rd wr hs hm hc w0 M β h' w R hrd hwr hst=>?_⟩
 unfold eN at hs
 split at hs
 ·rename_i e
  split at hs
  ·rename_i t g z i n he
   obtain⟨hb,hs⟩:=zj_ hs
   simp only[Option.some.injEq,Prod.mk.injEq]at hs
   obtain⟨rfl,rfl,rfl,rfl⟩:=hs
   simp only[Bool.and_eq_true]at hb
   obtain⟨⟨b1,b2⟩,b3⟩:=hb
   have b3:=Nat.eq_of_beq_eq_true b3
   subst b3
   have C:=callG (h:=h) (m:=m) [0,e,g,z] (none_lit n) R rfl (by simp) rfl rfl rfl
    ⟨.gone (by rw[R.nil0];rfl),bun_eng (t:=t) (ex:=true) he (hrd e (by simp)) rfl rfl,.gone (by rw[hrd g (by simp)];exact b1),.gone (by rw[hrd z (by simp)];exact b2),trivial⟩ hm (fun p hp=>by cases hp) (by simp)
    (by simp[yk_,HB.stable,eS,Stable,zd_,hp,HB.born]) ⟨rfl,trivial⟩ trivial trivial
   exact C
  ·cases hs
 ·cases hs
def cEn:FuncId→Option yr_:=xb_ [(77,eN),(106,pS),(78,sCopied)]
theorem cEn_ok:∀f S,cEn f=some S→zh_ Try.prog f S:=zn_ ⟨eN_ok,pS_ok,sCopied_ok,trivial⟩
theorem ended_lit (n:Nat)(s:Sta)(v:Evi)(x:Ins):yc_ Try.prog 74 [.ptr 1 []] [.gone,.own 161 (eS 2 5 n) true,.ro (macS s v x 3 4),.gone,.gone,.gone] (.bool s.ended) [.gone,.own 161 (eS 2 5 n) true,.gone,.gone,.gone,.gone]:=by
 refine zm_ (fn:=Try.f74) 6 16 0 rfl rfl rfl rfl rfl u6_ rfl fun w0 M E hro=>?_
 repeat' (first|refine Ctl.h ?_ |((with_reducible intro hif);first |(focus (cases hif;done)) |((try simp only[JH]at hif);try exact hy_)) |((with_reducible first|apply J22 cEn_ok za_|apply J23 fol cEn_ok za_|apply J24);(·rfl);(· exact k40_);(try kernel_rfl);try exact k12_)|fail)
 apply At.endsPick [0,1,2,3,4,5] za_ (fn:=Try.f74) (rs:=[.tmp 2]) Anc.refl hro (lb_ rfl) rfl
 ·exact k5_
 ·exact yq_
 ·rfl
 ·rfl
 ·rfl
 ·exact k24_
 ·rfl
 ·exact k38_
 ·exact k9_
 ·exact fun β=>rfl
 ·exact k38_
theorem at_lit (n:Nat)(s:Sta)(v:Evi)(x:Ins):yc_ Try.prog 75 [.ptr 1 []] [.gone,.own 161 (eS 2 5 n) true,.ro (macS s v x 3 4),.gone,.gone,.gone] (.int .i64 s.at_) [.gone,.own 161 (eS 2 5 n) true,.gone,.gone,.gone,.gone]:=by
 refine zm_ (fn:=Try.f75) 6 13 0 rfl rfl rfl rfl rfl u6_ rfl fun w0 M E hro=>?_
 repeat' (first|refine Ctl.h ?_ |((with_reducible intro hif);first |(focus (cases hif;done)) |((try simp only[JH]at hif);try exact hy_)) |((with_reducible first|apply J22 cEn_ok za_|apply J23 fol cEn_ok za_|apply J24);(·rfl);(· exact k40_);(try kernel_rfl);try exact k12_)|fail)
 apply At.endsPick [0,1,2,3,4,5] za_ (fn:=Try.f75) (rs:=[.tmp 2]) Anc.refl hro (lb_ rfl) rfl
 ·exact k5_
 ·exact yq_
 ·rfl
 ·rfl
 ·rfl
 ·exact k24_
 ·rfl
 ·exact k38_
 ·exact k9_
 ·exact fun β=>rfl
 ·exact k38_
theorem state_lit (n:Nat)(s:Sta)(v:Evi)(x:Ins)(hc:s.cells.length≤1000000)(hs:s.sends.length≤1000000):yc_ Try.prog 49 [.ptr 1 []] [.gone,.own 161 (eS 2 5 n) true,.ro (macS s v x 3 4),.ro (.arr s.cells.length 1 (i64S s.cells)),.ro (.arr s.sends.length 3 (zt_ s.sends)),.gone] (stS s 6 7) [.gone,.own 161 (eS 2 5 n) true,.gone,.gone,.gone,.gone,cB s,sB s]:=by
 refine zm_ (fn:=Try.f49) 6 14 0 rfl rfl rfl rfl rfl u6_ rfl fun w0 M E hro=>?_
 repeat' (first|refine Ctl.h ?_ |((with_reducible intro hif);first |(focus (cases hif;done)) |((try simp only[JH]at hif);try exact hy_)) |((with_reducible first|apply J22 cEn_ok za_|apply J23 fol cEn_ok za_|apply J24);(·rfl);(· (simp only[push_cast,↓JP,Nat.reduceAdd,Nat.reduceEqDiff,Nat.reduceLT,Nat.reduceMul,Nat.reduceLeDiff,reduceCtorEq,reduceIte,↓JK,JM,JE,eS,cEn,eN,sCopied,inR,inN];rfl));(try kernel_rfl);try exact k12_)|fail)
 apply At.endsPick [0,1,2,3,4,5,7,8] za_ (fn:=Try.f49) (rs:=[.cell 2 58]) Anc.refl hro (lb_ rfl) rfl
 ·exact k5_
 ·exact yq_
 ·rfl
 ·rfl
 ·rfl
 ·exact k24_
 ·rfl
 ·exact k38_
 ·exact k9_
 ·exact fun β=>rfl
 ·exact k38_
theorem Step_lit (P:List Ins)(s:Sta)(v:Evi)(x:Ins)(hP:PG P)(V:VOk v)(hS:SG P s):yc_ Try.prog 76 [.ptr 1 []] [.gone,.own 161 (eS 2 5 P.length) true,mB s v x 3 4,cB s,sB s,prO P] (.int .i64 (stepE P v s))
  [.gone,.own 161 (eS 2 5 P.length) true,mB (stepS P v s) v (stepX P s x) 3 6,cB (stepS P v s),.gone,prO P,sB (stepS P v s)]:=by
 refine zm_ (fn:=Try.f76) 6 14 0 rfl rfl rfl rfl rfl (by simp only[zd_,Stable,hp,i64S,prS,insS,zt_,sndS,stS,evS,macS,mB,cB,sB,eS,prO,prR,HB.stable];simp[HB.born,mB,cB,sB,prO]) rfl fun w0 M E hro=>?_
 repeat' (first|refine Ctl.h ?_ |((with_reducible intro hif);first |(focus (cases hif;done)) |((try simp only[JH]at hif);try exact hy_)) |((with_reducible first|apply J22 cEn_ok za_|apply J23 fol cEn_ok za_|apply J24);(·rfl);(· (simp only[push_cast,↓JP,Nat.reduceAdd,Nat.reduceEqDiff,Nat.reduceLT,Nat.reduceMul,Nat.reduceLeDiff,reduceCtorEq,reduceIte,↓JK,JM,JE,eS,prO,prP,macP,ym_,memN,cEn,eN,pS,inR,inN];rfl));(try kernel_rfl);try exact k12_)|fail)
 apply At.endsPick [0,1,2,3,4,5,6] za_ (fn:=Try.f76) (rs:=[.tmp 2]) Anc.refl hro (lb_ rfl) rfl
 ·exact k5_
 ·exact yq_
 ·rfl
 ·rfl
 ·rfl
 ·exact k24_
 ·rfl
 ·exact k38_
 ·exact k9_
 ·exact fun β=>rfl
 ·exact k38_
end Go.Proofs.Ytjliakjbdcplcaa.Vm
end
section
namespace Go.Proofs.Ytjliakjbdcplcaa.Vm
open Go.RowKit
theorem eB_ren (ρ : Nat→Nat)(g i n:Nat):(eB g i n).ren ρ = eB (ρ g) (ρ i) n:=rfl
theorem prO_ren (ρ : Nat→Nat)(P:List Ins):(prO P).ren ρ = prO P:=by
 simp only[prO,HB.ren,SV.ren,prS_ren]
theorem prO_st {h:HM}{P:List Ins}:(prO P).stable h:=fun q=>prS_stable q
theorem eB_st {h:HM}{g i n:Nat}(hg:(h g).born=true)(hi:(h i).born=true):(eB g i n).stable h:=by
 simp[eB,HB.stable,Stable,zd_,hg,hi]
theorem bun_engO {ρ : Nat→Nat}{h h':HM}{e g i n a b:Nat}(he:h e=.own 161 (eS g i n) true)(ee:h' e=h e)(ha:ρ a=g)(hb:ρ b=i):Bun1 ρ (h' e) (eB a b n):=by
 show Less (h' e) (.own 161 ((eS a b n).ren ρ) true)
 rw[ee,he]
 simp only[eS,SV.ren,renL,ha,hb]
 exact .same _
theorem bun_prO {ρ : Nat→Nat}{h h':HM}{i n:Nat}{P:List Ins}{ok:Prop}(hp:prP h i=some (n,P,ok))(hok:ok)(ei:h' i=h i):Bun1 ρ (h' i) (prO P):=by
 unfold prP at hp
 split at hp
 ·rename_i t n f hi
  obtain⟨hb,hs⟩:=zj_ hp
  simp only[Option.some.injEq,Prod.mk.injEq]at hs
  obtain⟨rfl,rfl,rfl⟩:=hs
  have:=Nat.eq_of_beq_eq_true hb
  subst this
  show Less (h' i) (.own 73 (.arr (ls zg_ n f).length 5 fun q=>(prS (ls zg_ n f) q).ren ρ) false)
  rw[ei,hi,prS_ren,zb_]
  refine .val (fun β=>arrCl fun q hq=>?_) (fun n k f e=>by injection e with e1 e2 e3;subst e1 e2;exact⟨_,rfl⟩) (fun n k f e=>by injection e with e1 e2 e3;subst e1 e2;exact⟨_,rfl⟩)
  unfold prS
  rw[isIns_cl (hok q hq),ls_getD hq,isIns_cl (zy_ _),zv_]
 ·cases hp
theorem macS_st {h:HM}{s:Sta}{v:Evi}{x:Ins}{c k:Nat}(hc:(h c).born=true)(hk:(h k).born=true):(HB.ro (macS s v x c k)).stable h:=by
 simp[HB.stable,macS,stS,evS,insS,Stable,zd_,hc,hk]
theorem celR_st {h:HM}{l:List Int}:(HB.ro (.arr l.length 1 (i64S l))).stable h:=fun q=>i64S_stable q
theorem sndR_st {h:HM}{l:List Snd}:(HB.ro (.arr l.length 3 (zt_ l))).stable h:=fun q=>sndsS_stable q
def eEnded:yr_:=fun args h m=>match args with
 | [.ptr e []]=>match engP h e with
  | some (s,v,x,P,(g,c,k,i),ok)=>some (ok∧True,.bool s.ended,[e,g,c,k,i],[(e,eB g i P.length)])
  | none=>none
 | _=>none
theorem eEnded_ok:zh_ Try.prog 74 eEnded:=by
 refine⟨zf_ (by kernel_rfl),fun args h m c v rd wr hs hm hc w0 M β h' w R hrd hwr hst=>?_⟩
 unfold eEnded at hs
 split at hs
 ·rename_i e
  split at hs
  ·rename_i s v x P g c k i ok hep
   simp only[Option.some.injEq,Prod.mk.injEq]at hs
   obtain⟨rfl,rfl,rfl,rfl⟩:=hs
   obtain⟨ok1,ok2,rfl,hmp,hpp,he,hnd⟩:=engP_val hep
   obtain⟨⟨hok,hok2⟩,_⟩:=hc
   have ee:=hrd e (by simp)
   have eg:=hrd g (by simp)
   have ec:=hrd c (by simp)
   have ek:=hrd k (by simp)
   have ei:=hrd i (by simp)
   exact bun_ok (h:=h) (m:=m) [0,e,g,c,k,i] (ended_lit P.length s v x) R rfl (by simp) rfl rfl hnd
    ⟨Fit.gone (by rw[R.nil0];rfl),bun_engO he ee rfl rfl,bun_macR hmp hok eg rfl rfl,bun_cel0 hmp hok ec,bun_snd0 hmp hok ek,bun_pr0 hpp ei,trivial⟩ hm
    (fun p hp=>by cases hp) (by simp) rfl
    ⟨trivial,eB_st rfl rfl,macS_st rfl rfl,trivial,trivial,trivial,trivial⟩ ⟨rfl,trivial⟩
    ⟨trivial,eB_st rfl rfl,macS_st rfl rfl,trivial,trivial,trivial,trivial⟩ (trivial) rfl rfl (by rfl)
  ·cases hs
 ·cases hs
def eAt:yr_:=fun args h m=>match args with
 | [.ptr e []]=>match engP h e with
  | some (s,v,x,P,(g,c,k,i),ok)=>some (ok∧True,.int .i64 s.at_,[e,g,c,k,i],[(e,eB g i P.length)])
  | none=>none
 | _=>none
theorem eAt_ok:zh_ Try.prog 75 eAt:=by
 refine⟨zf_ (by kernel_rfl),fun args h m c v rd wr hs hm hc w0 M β h' w R hrd hwr hst=>?_⟩
 unfold eAt at hs
 split at hs
 ·rename_i e
  split at hs
  ·rename_i s v x P g c k i ok hep
   simp only[Option.some.injEq,Prod.mk.injEq]at hs
   obtain⟨rfl,rfl,rfl,rfl⟩:=hs
   obtain⟨ok1,ok2,rfl,hmp,hpp,he,hnd⟩:=engP_val hep
   obtain⟨⟨hok,hok2⟩,_⟩:=hc
   have ee:=hrd e (by simp)
   have eg:=hrd g (by simp)
   have ec:=hrd c (by simp)
   have ek:=hrd k (by simp)
   have ei:=hrd i (by simp)
   exact bun_ok (h:=h) (m:=m) [0,e,g,c,k,i] (at_lit P.length s v x) R rfl (by simp) rfl rfl hnd
    ⟨Fit.gone (by rw[R.nil0];rfl),bun_engO he ee rfl rfl,bun_macR hmp hok eg rfl rfl,bun_cel0 hmp hok ec,bun_snd0 hmp hok ek,bun_pr0 hpp ei,trivial⟩ hm
    (fun p hp=>by cases hp) (by simp) rfl
    ⟨trivial,eB_st rfl rfl,macS_st rfl rfl,trivial,trivial,trivial,trivial⟩ ⟨rfl,trivial⟩
    ⟨trivial,eB_st rfl rfl,macS_st rfl rfl,trivial,trivial,trivial,trivial⟩ (trivial) rfl rfl (by rfl)
  ·cases hs
 ·cases hs
def xp_:yr_:=fun args h m=>match args with
 | [.ptr e []]=>match engP h e with
  | some (s,v,x,P,(g,c,k,i),ok)=>some (ok∧s.cells.length≤1000000∧s.sends.length≤1000000,stS s m (m+1),[e,g,c,k,i],[(e,eB g i P.length),(m,cB s),(m+1,sB s)])
  | none=>none
 | _=>none
theorem eState_ok:zh_ Try.prog 49 xp_:=by
 refine⟨zf_ (by kernel_rfl),fun args h m c v rd wr hs hm hc w0 M β h' w R hrd hwr hst=>?_⟩
 unfold xp_ at hs
 split at hs
 ·rename_i e
  split at hs
  ·rename_i s v x P g c k i ok hep
   simp only[Option.some.injEq,Prod.mk.injEq]at hs
   obtain⟨rfl,rfl,rfl,rfl⟩:=hs
   obtain⟨ok1,ok2,rfl,hmp,hpp,he,hnd⟩:=engP_val hep
   obtain⟨⟨hok,hok2⟩,hc1,hs1⟩:=hc
   have ee:=hrd e (by simp)
   have eg:=hrd g (by simp)
   have ec:=hrd c (by simp)
   have ek:=hrd k (by simp)
   have ei:=hrd i (by simp)
   exact bun_ok (h:=h) (m:=m) [0,e,g,c,k,i] (state_lit P.length s v x hc1 hs1) R rfl (by simp) rfl rfl hnd
    ⟨Fit.gone (by rw[R.nil0];rfl),bun_engO he ee rfl rfl,bun_macR hmp hok eg rfl rfl,bun_celR hmp hok ec,bun_sndR hmp hok ek,bun_pr0 hpp ei,trivial⟩ hm
    (fun p hp=>by
     simp only[newB,List.drop,List.length_cons,List.length_nil,List.mem_cons,List.not_mem_nil,or_false]at hp
     rcases hp with rfl|rfl
     ·exact hwr (m,cB s) (by simp)
     ·exact hwr (m+1,sB s) (by simp)) (by simp) rfl
    ⟨trivial,eB_st rfl rfl,macS_st rfl rfl,celR_st,sndR_st,trivial,trivial⟩ ⟨rfl,trivial⟩
    ⟨trivial,eB_st rfl rfl,macS_st rfl rfl,celR_st,sndR_st,trivial,cB_st,sB_st,trivial⟩ (by simp[stS,Stable,zd_];exact⟨rfl,rfl⟩) rfl rfl (by show [(e,(eB 2 5 _).ren _),(m,(cB s).ren _),(m+1,(sB s).ren _)]=_;rw[eB_ren,cB_ren,sB_ren];rfl)
  ·cases hs
 ·cases hs
def eStep:yr_:=fun args h m=>match args with
 | [.ptr e []]=>match engP h e with
  | some (s,v,x,P,(g,c,k,i),ok)=>some (ok∧PG P∧VOk v∧SG P s,.int .i64 (stepE P v s),[e,g,c,k,i],[(e,eB g i P.length),(g,mB (stepS P v s) v (stepX P s x) c m),(c,cB (stepS P v s)),(k,.gone),(i,prO P),(m,sB (stepS P v s))])
  | none=>none
 | _=>none
theorem eStep_ok:zh_ Try.prog 76 eStep:=by
 refine⟨zf_ (by kernel_rfl),fun args h m c v rd wr hs hm hc w0 M β h' w R hrd hwr hst=>?_⟩
 unfold eStep at hs
 split at hs
 ·rename_i e
  split at hs
  ·rename_i s v x P g c k i ok hep
   simp only[Option.some.injEq,Prod.mk.injEq]at hs
   obtain⟨rfl,rfl,rfl,rfl⟩:=hs
   obtain⟨ok1,ok2,rfl,hmp,hpp,he,hnd⟩:=engP_val hep
   obtain⟨⟨hok,hok2⟩,hP,hV,hS⟩:=hc
   have ee:=hrd e (by simp)
   have eg:=hrd g (by simp)
   have ec:=hrd c (by simp)
   have ek:=hrd k (by simp)
   have ei:=hrd i (by simp)
   exact bun_ok (h:=h) (m:=m) [0,e,g,c,k,i] (Step_lit P s v x hP hV hS) R rfl (by simp) rfl rfl hnd
    ⟨Fit.gone (by rw[R.nil0];rfl),bun_engO he ee rfl rfl,bun_mac hmp hok eg rfl rfl,bun_cel hmp hok ec,bun_snd hmp hok ek,bun_prO hpp hok2 ei,trivial⟩ hm
    (fun p hp=>by
     simp only[newB,List.drop,List.length_cons,List.length_nil,List.mem_cons,List.not_mem_nil,or_false]at hp
     subst hp
     exact hwr (m,sB (stepS P v s)) (by simp)) (by simp) rfl
    ⟨trivial,eB_st rfl rfl,mB_st rfl rfl,cB_st,sB_st,prO_st,trivial⟩ ⟨rfl,trivial⟩
    ⟨trivial,eB_st rfl rfl,mB_st rfl rfl,cB_st,trivial,prO_st,sB_st,trivial⟩ (trivial) rfl rfl (by show [(e,(eB 2 5 _).ren _),(g,(mB _ v _ 3 6).ren _),(c,(cB _).ren _),(k,HB.gone.ren _),(i,(prO P).ren _),(m,(sB _).ren _)]=_;rw[eB_ren,mB_ren,cB_ren,sB_ren,prO_ren];simp[y6_,HB.ren])
  ·cases hs
 ·cases hs
theorem rright_lit (f:Int):yc_ Try.prog 47 [.int .i64 f] [.gone] (.int .i64 (rrE f)) [.gone]:=by
 by_cases h1:f < 0
 ·have e:rrE f=2:=by unfold rrE;rw[if_pos (.inl h1)]
  rw[e]
  refine zm_ (fn:=Try.f47) 1 9 0 rfl rfl rfl rfl rfl u7_ rfl fun w0 M E hro=>?_
  repeat' (first|refine Ctl.h ?_ |((with_reducible intro hif);first |(focus (cases hif;done)) |((try simp only[JH]at hif);try exact hy_)) |((with_reducible first|apply J22 c1_ok za_|apply J23 fol c1_ok za_|apply J24);(·rfl);(· (simp only[push_cast,↓JP,Nat.reduceAdd,Nat.reduceEqDiff,Nat.reduceLT,Nat.reduceMul,Nat.reduceLeDiff,reduceCtorEq,reduceIte,↓JK,inR,inN,h1];rfl));(try kernel_rfl);try exact k12_)|fail)
  apply At.endsRet za_ (fn:=Try.f47) (rs:=[.tmp 2]) Anc.refl hro (lb_ rfl) rfl
  ·exact k5_
  ·exact k6_
  ·exact k7_
  ·rfl
  ·exact k39_
  ·exact k9_
  ·exact fun β=>rfl
  ·exact k39_
 ·by_cases h2:4096 < f
  ·have e:rrE f=2:=by unfold rrE;rw[if_pos (.inr h2)]
   rw[e]
   refine zm_ (fn:=Try.f47) 1 9 0 rfl rfl rfl rfl rfl u7_ rfl fun w0 M E hro=>?_
   repeat' (first|refine Ctl.h ?_ |((with_reducible intro hif);first |(focus (cases hif;done)) |((try simp only[JH]at hif);try exact hy_)) |((with_reducible first|apply J22 c1_ok za_|apply J23 fol c1_ok za_|apply J24);(·rfl);(· exact k41_);(try kernel_rfl);try exact k12_)|fail)
   apply At.endsRet za_ (fn:=Try.f47) (rs:=[.tmp 2]) Anc.refl hro (lb_ rfl) rfl
   ·exact k5_
   ·exact k6_
   ·exact k7_
   ·rfl
   ·exact k39_
   ·exact k9_
   ·exact fun β=>rfl
   ·exact k39_
  ·have e:rrE f=0:=by unfold rrE;rw[if_neg (by omega)]
   rw[e]
   refine zm_ (fn:=Try.f47) 1 9 0 rfl rfl rfl rfl rfl u7_ rfl fun w0 M E hro=>?_
   repeat' (first|refine Ctl.h ?_ |((with_reducible intro hif);first |(focus (cases hif;done)) |((try simp only[JH]at hif);try exact hy_)) |((with_reducible first|apply J22 c1_ok za_|apply J23 fol c1_ok za_|apply J24);(·rfl);(· exact k41_);(try kernel_rfl);try exact k12_)|fail)
   apply At.endsRet za_ (fn:=Try.f47) (rs:=[.tmp 2]) Anc.refl hro (lb_ rfl) rfl
   ·exact k5_
   ·exact k6_
   ·exact k7_
   ·rfl
   ·exact k39_
   ·exact k9_
   ·exact fun β=>rfl
   ·exact k39_
def sRRight:yr_:=fun args h m=>match args with
 | [v1]=>bif isI .i64 v1 then some (True,.int .i64 (rrE (iOf v1)),[],[])else none
 | _=>none
theorem sRRight_ok:zh_ Try.prog 47 sRRight:=by
 refine⟨zf_ (by kernel_rfl),fun args h m c v rd wr hs hm hc w0 M β h' w R hrd hwr hst=>?_⟩
 unfold sRRight at hs
 split at hs
 ·rename_i v1
  obtain⟨hb,hs⟩:=zj_ hs
  simp only[Option.some.injEq,Prod.mk.injEq]at hs
  obtain⟨rfl,rfl,rfl,rfl⟩:=hs
  have b1:=hb
  refine y9_ (views:=[]) (rright_lit (iOf v1)) ?_ R hm hwr ?_ ?_ ?_
  ·intro x hx;cases hx
  ·intro β1 hv
   simp only[denL,yp_,yo_,yn_,z6_,zb_,zc_ b1]
  ·exact k39_
  ·exact k39_
 ·cases hs
def pbB (e:Nat):HB:=.own 120 (.ptr e []) true
def fbB (f:Int):HB:=.own 3 (.int .i64 f) true
theorem steps_lit (f:Int):yc_ Try.prog 48 [.ptr 1 [],.int .i64 f] [.gone,.gone] (.fn 73 [.ptr 2 [],.ptr 3 []]) [.gone,.gone,pbB 1,fbB f]:=by
 refine zm_ (fn:=Try.f48) 2 6 0 rfl rfl rfl rfl rfl u7_ rfl fun w0 M E hro=>?_
 repeat' (first|refine Ctl.h ?_ |((with_reducible intro hif);first |(focus (cases hif;done)) |((try simp only[JH]at hif);try exact hy_)) |((with_reducible first|apply J22 c1_ok za_|apply J23 fol c1_ok za_|apply J24);(·rfl);(· (simp only[push_cast,↓JP,Nat.reduceAdd,Nat.reduceEqDiff,Nat.reduceLT,Nat.reduceMul,Nat.reduceLeDiff,reduceCtorEq,reduceIte,↓JK,inR,inN];rfl));(try kernel_rfl);try exact k12_)|fail)
 apply At.endsPick [0,1,2,3] za_ (fn:=Try.f48) (rs:=[.tmp 4]) Anc.refl hro (lb_ rfl) rfl
 ·exact k5_
 ·exact yq_
 ·rfl
 ·rfl
 ·rfl
 ·exact k24_
 ·rfl
 ·exact k39_
 ·exact k9_
 ·exact fun β=>rfl
 ·exact k39_
def sSteps:yr_:=fun args h m=>match args with
 | [.ptr e [],.int .i64 f]=>bif (h e).born && ym_ [0,e] then some (True,.fn 73 [.ptr m [],.ptr (m+1) []],[e],[(m,pbB e),(m+1,fbB f)])else none
 | _=>none
theorem sSteps_ok:zh_ Try.prog 48 sSteps:=by
 refine⟨zf_ (by kernel_rfl),fun args h m c v rd wr hs hm hc w0 M β h' w R hrd hwr hst=>?_⟩
 unfold sSteps at hs
 split at hs
 ·rename_i e f
  obtain⟨hb,hs⟩:=zj_ hs
  simp only[Option.some.injEq,Prod.mk.injEq]at hs
  obtain⟨rfl,rfl,rfl,rfl⟩:=hs
  simp only[Bool.and_eq_true]at hb
  obtain⟨b1,hnd⟩:=hb
  have e1:y6_ [0,e] m 2=m:=by simp[y6_]
  have e2:y6_ [0,e] m 3=m+1:=by simp[y6_]
  exact bun_ok (h:=h) (m:=m) [0,e] (steps_lit f) R rfl (by simp) rfl rfl hnd
   ⟨Fit.gone (by rw[R.nil0];rfl),Fit.gone (by rw[hrd e (by simp)];exact b1),trivial⟩ hm
   (fun p hp=>by
    simp only[newB,List.drop,List.length_cons,List.length_nil,List.mem_cons,List.not_mem_nil,or_false]at hp
    rcases hp with rfl|rfl
    ·exact hwr (m,pbB e) (by simp)
    ·exact hwr (m+1,fbB f) (by simp)) (by simp) rfl
   ⟨trivial,trivial,trivial⟩ ⟨rfl,trivial,trivial⟩ ⟨trivial,trivial,by simp[pbB,HB.stable,Stable,hp,mrgL,HB.born],trivial,trivial⟩ (by simp[Stable,zd_,hp,mrgL,HB.born,pbB,fbB]) rfl
   (by simp only [SV.ren, renL, e1, e2]) (by
    show [(m,(pbB 1).ren _),(m+1,(fbB f).ren _)]=_
    rfl)
 ·cases hs
theorem ls_zero {α : Type}(g:SV→α)(f:Nat→SV):ls g 0 f=[]:=rfl
theorem beg_fold (y t s d:Int)(cs:List Int):Sta.mk 0 false (fun q=>begR y t s q) cs d []=ya_ y t s cs d:=rfl
set_option linter.defProp false in
def JB:=And.intro @ls_zero @beg_fold
def cRo:FuncId→Option yr_:=xb_ [(47,sRRight),(24,sBegin),(45,sOnG)]
theorem cRo_ok:∀f S,cRo f=some S→zh_ Try.prog f S:=zn_ ⟨sRRight_ok,sBegin_ok,sOnG_ok,trivial⟩
theorem rop_good (P:List Ins)(v:Evi)(t s q o y d f:Int)(cs:List Int)(p1 p2:Nat)(hP:∀x∈P,x.ok)(hn:P.length≤1000000)(hc:cs.length≤1000000)(hE:ropE P v (ya_ y t s cs d) f=0):yc_ Try.prog 51 [.sl 1 2 [] 5 0 P.length (some p1),.agg [.int .u64 v.seed,.int .i64 v.process,.int .i64 v.ports,.int .i64 v.look,.int .i64 v.now],.agg [.agg [.int .i64 t,.int .i64 s,.int .i64 q],.int .i64 o,.int .i64 y],.sl 3 4 [] 1 0 cs.length (some p2),.int .i64 d,.int .i64 f]
  [.gone,.gone,.ro (.arr P.length 5 (prS P)),.gone,.ro (.arr cs.length 1 (i64S cs))]
  (.tup [.ptr 5 [],.int .i64 0]) [.gone,.gone,.gone,.gone,.gone,eB 6 9 P.length,mB (ya_ y t s cs d) v Ins0 7 8,cB (ya_ y t s cs d),sB (ya_ y t s cs d),prO P]:=by
 have hf:=(ropE_zero hE).1
 have hO:=(ropE_zero hE).2
 have hr:rrE f=0:=by unfold rrE;rw[if_neg (by omega)]
 refine zm_ (fn:=Try.f51) 5 29 0 rfl rfl rfl rfl rfl u7_ rfl fun w0 M E hro=>?_
 repeat' (first|refine Ctl.h ?_ |((with_reducible intro hif);first |(focus (cases hif;done)) |((try simp only[JH]at hif);try exact hy_)) |((with_reducible first|apply J22 cRo_ok za_|apply J23 fol cRo_ok za_|apply J24);(·rfl);(· (simp only[push_cast,↓JP,Nat.reduceAdd,Nat.reduceEqDiff,Nat.reduceLT,Nat.reduceMul,Nat.reduceLeDiff,reduceCtorEq,reduceIte,↓JK,cRo,sRRight,sBegin,sOnG,JE,JB,inR,inN,hr,hO];rfl));(try kernel_rfl);try exact k35_)|fail)
 apply At.endsPick [0,1,2,3,4,8,9,10,11,12] za_ (fn:=Try.f51) (rs:=[.tmp 12,.tmp 13]) Anc.refl hro (lb_ rfl) rfl
 ·exact k5_
 ·exact yq_
 ·rfl
 ·rfl
 ·rfl
 ·exact k24_
 ·rfl
 ·exact k39_
 ·exact k9_
 ·exact fun β=>rfl
 ·exact k39_
def cRb:FuncId→Option yr_:=xb_ [(47,sRRight),(24,sBegin),(45,sOnB)]
theorem cRb_ok:∀f S,cRb f=some S→zh_ Try.prog f S:=zn_ ⟨sRRight_ok,sBegin_ok,sOnB_ok,trivial⟩
theorem rop_bad (P:List Ins)(v:Evi)(t s q o y d f:Int)(cs:List Int)(p1 p2:Nat)(hP:∀x∈P,x.ok)(hn:P.length≤1000000)(hc:cs.length≤1000000)(hE:ropE P v (ya_ y t s cs d) f≠0):yc_ Try.prog 51 [.sl 1 2 [] 5 0 P.length (some p1),.agg [.int .u64 v.seed,.int .i64 v.process,.int .i64 v.ports,.int .i64 v.look,.int .i64 v.now],.agg [.agg [.int .i64 t,.int .i64 s,.int .i64 q],.int .i64 o,.int .i64 y],.sl 3 4 [] 1 0 cs.length (some p2),.int .i64 d,.int .i64 f]
  [.gone,.gone,.ro (.arr P.length 5 (prS P)),.gone,.ro (.arr cs.length 1 (i64S cs))]
  (.tup [.nilp,.int .i64 (ropE P v (ya_ y t s cs d) f)]) [.gone]:=by
 by_cases hr:rrE f=0
 ·have e:ropE P v (ya_ y t s cs d) f=openE P v (ya_ y t s cs d):=by unfold ropE;rw[if_pos hr]
  rw[e]at hE ⊢
  refine zm_ (fn:=Try.f51) 5 29 0 rfl rfl rfl rfl rfl u7_ rfl fun w0 M E hro=>?_
  repeat' (first|refine Ctl.h ?_ |((with_reducible intro hif);first |(focus (cases hif;done)) |((try simp only[JH]at hif);try exact hy_)) |((with_reducible first|apply J22 cRb_ok za_|apply J23 fol cRb_ok za_|apply J24);(·rfl);(· (simp only[push_cast,↓JP,Nat.reduceAdd,Nat.reduceEqDiff,Nat.reduceLT,Nat.reduceMul,Nat.reduceLeDiff,reduceCtorEq,reduceIte,↓JK,cRb,sRRight,sBegin,sOnB,JE,JB,inR,inN,hr,hE];rfl));(try kernel_rfl);try exact k35_)|fail)
  apply At.endsRet za_ (fn:=Try.f51) (rs:=[.tmp 12,.tmp 13]) Anc.refl hro (lb_ rfl) rfl
  ·exact k5_
  ·exact k6_
  ·exact k7_
  ·rfl
  ·exact k39_
  ·exact k9_
  ·exact fun β=>rfl
  ·exact k39_
 ·have e:ropE P v (ya_ y t s cs d) f=rrE f:=by unfold ropE;rw[if_neg hr]
  rw[e]
  refine zm_ (fn:=Try.f51) 5 29 0 rfl rfl rfl rfl rfl u7_ rfl fun w0 M E hro=>?_
  repeat' (first|refine Ctl.h ?_ |((with_reducible intro hif);first |(focus (cases hif;done)) |((try simp only[JH]at hif);try exact hy_)) |((with_reducible first|apply J22 cRb_ok za_|apply J23 fol cRb_ok za_|apply J24);(·rfl);(· (simp only[push_cast,↓JP,Nat.reduceAdd,Nat.reduceEqDiff,Nat.reduceLT,Nat.reduceMul,Nat.reduceLeDiff,reduceCtorEq,reduceIte,↓JK,cRb,sRRight,sBegin,sOnB,JE,JB,inR,inN,hr];rfl));(try kernel_rfl);try exact k35_)|fail)
  apply At.endsRet za_ (fn:=Try.f51) (rs:=[.tmp 12,.tmp 13]) Anc.refl hro (lb_ rfl) rfl
  ·exact k5_
  ·exact k6_
  ·exact k7_
  ·rfl
  ·exact k39_
  ·exact k9_
  ·exact fun β=>rfl
  ·exact k39_
def sRoG:yr_:=fun args h m=>match args with
 | [v1,.agg [v2,v3,v4,v5,v6],.agg [.agg [v7,v8,v9],v10,v11],v12,v13,v14]=>match srcV h 5 (.tup []) v1,srcV h 1 (.tup []) v12 with
  | some (c1,n1,f1,r1),some (c12,n12,f12,r12)=>bif isI .u64 v2 && isI .i64 v3 && isI .i64 v4 && isI .i64 v5 && isI .i64 v6 && isI .i64 v7 && isI .i64 v8 && isI .i64 v9 && isI .i64 v10 && isI .i64 v11 && isI .i64 v13 && isI .i64 v14 then some (c1∧c12∧(∀q,q < n1→isIns (f1 q)=true)∧(∀q,q < n12→isI .i64 (f12 q)=true)∧((∀x∈(ls zg_ n1 f1),x.ok))∧(n1≤1000000)∧(n12≤1000000)∧(ropE (ls zg_ n1 f1) ⟨(iOf v2),(iOf v3),(iOf v4),(iOf v5),(iOf v6)⟩ (ya_ (iOf v11) (iOf v7) (iOf v8) (ls iOf n12 f12) (iOf v13)) (iOf v14)=0),.tup [.ptr m [],.int .i64 0],r1++r12,[(m,eB (m+1) (m+4) (ls zg_ n1 f1).length),(m+1,mB (ya_ (iOf v11) (iOf v7) (iOf v8) (ls iOf n12 f12) (iOf v13)) ⟨(iOf v2),(iOf v3),(iOf v4),(iOf v5),(iOf v6)⟩ Ins0 (m+2) (m+3)),(m+2,cB (ya_ (iOf v11) (iOf v7) (iOf v8) (ls iOf n12 f12) (iOf v13))),(m+3,sB (ya_ (iOf v11) (iOf v7) (iOf v8) (ls iOf n12 f12) (iOf v13))),(m+4,prO (ls zg_ n1 f1))])else none
  | _,_=>none
 | _=>none
theorem sRoG_ok:zh_ Try.prog 51 sRoG:=by
 refine⟨zf_ (by kernel_rfl),fun args h m c v rd wr hs hm hc w0 M β h' w R hrd hwr hst=>?_⟩
 unfold sRoG at hs
 split at hs
 ·rename_i v1 v2 v3 v4 v5 v6 v7 v8 v9 v10 v11 v12 v13 v14
  split at hs
  ·rename_i c1 n1 f1 r1 c12 n12 f12 r12 a1 a12
   obtain⟨hb,hs⟩:=zj_ hs
   simp only[Option.some.injEq,Prod.mk.injEq]at hs
   obtain⟨rfl,rfl,rfl,rfl⟩:=hs
   simp only[Bool.and_eq_true]at hb
   obtain⟨⟨⟨⟨⟨⟨⟨⟨⟨⟨⟨b2,b3⟩,b4⟩,b5⟩,b6⟩,b7⟩,b8⟩,b9⟩,b10⟩,b11⟩,b13⟩,b14⟩:=hb
   obtain⟨k1,k12,g1,g12,y1,y2,y3,y4⟩:=hc
   obtain⟨A1,p1,d1,e1,t1⟩:=zk_ R a1 k1 (fun i hi=>hrd i (List.mem_append_left _ hi)) (by omega)
   obtain⟨A12,p12,d12,e12,t12⟩:=zk_ R a12 k12 (fun i hi=>hrd i (List.mem_append_right _ hi)) (by omega)
   refine y9_ (views:=[⟨5,(ls zg_ n1 f1).length,prS (ls zg_ n1 f1),A1,p1⟩,⟨1,(ls iOf n12 f12).length,i64S (ls iOf n12 f12),A12,p12⟩]) (rop_good (ls zg_ n1 f1) ⟨(iOf v2),(iOf v3),(iOf v4),(iOf v5),(iOf v6)⟩ (iOf v7) (iOf v8) (iOf v9) (iOf v10) (iOf v11) (iOf v13) (iOf v14) (ls iOf n12 f12) p1 p12 y1 (by rw[zb_];exact y2) (by rw[zb_];exact y3) y4) ?_ R hm hwr ?_ ?_ ?_
   ·exact d21_
   ·exact d22_
   ·exact k39_
   ·exact k39_
  ·cases hs
 ·cases hs
def sRoB:yr_:=fun args h m=>match args with
 | [v1,.agg [v2,v3,v4,v5,v6],.agg [.agg [v7,v8,v9],v10,v11],v12,v13,v14]=>match srcV h 5 (.tup []) v1,srcV h 1 (.tup []) v12 with
  | some (c1,n1,f1,r1),some (c12,n12,f12,r12)=>bif isI .u64 v2 && isI .i64 v3 && isI .i64 v4 && isI .i64 v5 && isI .i64 v6 && isI .i64 v7 && isI .i64 v8 && isI .i64 v9 && isI .i64 v10 && isI .i64 v11 && isI .i64 v13 && isI .i64 v14 then some (c1∧c12∧(∀q,q < n1→isIns (f1 q)=true)∧(∀q,q < n12→isI .i64 (f12 q)=true)∧((∀x∈(ls zg_ n1 f1),x.ok))∧(n1≤1000000)∧(n12≤1000000)∧(ropE (ls zg_ n1 f1) ⟨(iOf v2),(iOf v3),(iOf v4),(iOf v5),(iOf v6)⟩ (ya_ (iOf v11) (iOf v7) (iOf v8) (ls iOf n12 f12) (iOf v13)) (iOf v14)≠0),.tup [.nilp,.int .i64 (ropE (ls zg_ n1 f1) ⟨(iOf v2),(iOf v3),(iOf v4),(iOf v5),(iOf v6)⟩ (ya_ (iOf v11) (iOf v7) (iOf v8) (ls iOf n12 f12) (iOf v13)) (iOf v14))],r1++r12,[])else none
  | _,_=>none
 | _=>none
theorem sRoB_ok:zh_ Try.prog 51 sRoB:=by
 refine⟨zf_ (by kernel_rfl),fun args h m c v rd wr hs hm hc w0 M β h' w R hrd hwr hst=>?_⟩
 unfold sRoB at hs
 split at hs
 ·rename_i v1 v2 v3 v4 v5 v6 v7 v8 v9 v10 v11 v12 v13 v14
  split at hs
  ·rename_i c1 n1 f1 r1 c12 n12 f12 r12 a1 a12
   obtain⟨hb,hs⟩:=zj_ hs
   simp only[Option.some.injEq,Prod.mk.injEq]at hs
   obtain⟨rfl,rfl,rfl,rfl⟩:=hs
   simp only[Bool.and_eq_true]at hb
   obtain⟨⟨⟨⟨⟨⟨⟨⟨⟨⟨⟨b2,b3⟩,b4⟩,b5⟩,b6⟩,b7⟩,b8⟩,b9⟩,b10⟩,b11⟩,b13⟩,b14⟩:=hb
   obtain⟨k1,k12,g1,g12,y1,y2,y3,y4⟩:=hc
   obtain⟨A1,p1,d1,e1,t1⟩:=zk_ R a1 k1 (fun i hi=>hrd i (List.mem_append_left _ hi)) (by omega)
   obtain⟨A12,p12,d12,e12,t12⟩:=zk_ R a12 k12 (fun i hi=>hrd i (List.mem_append_right _ hi)) (by omega)
   refine y9_ (views:=[⟨5,(ls zg_ n1 f1).length,prS (ls zg_ n1 f1),A1,p1⟩,⟨1,(ls iOf n12 f12).length,i64S (ls iOf n12 f12),A12,p12⟩]) (rop_bad (ls zg_ n1 f1) ⟨(iOf v2),(iOf v3),(iOf v4),(iOf v5),(iOf v6)⟩ (iOf v7) (iOf v8) (iOf v9) (iOf v10) (iOf v11) (iOf v13) (iOf v14) (ls iOf n12 f12) p1 p12 y1 (by rw[zb_];exact y2) (by rw[zb_];exact y3) y4) ?_ R hm hwr ?_ ?_ ?_
   ·exact d21_
   ·exact d22_
   ·exact k39_
   ·exact k39_
  ·cases hs
 ·cases hs
end Go.Proofs.Ytjliakjbdcplcaa.Vm
end
end
section
namespace Go.Proofs.Ytjliakjbdcplcaa.Vm
open Go.RowKit
def PickF (σ : Nat→Nat)(φ : Fr):Fr→Prop
 | []=>True
 | p::l=>(∃u,look φ p.1=some u∧∀β,u.den β =(p.2.ren σ).den β)∧PickF σ φ l
theorem pickF_spec {σ : Nat→Nat}{φ : Fr}:∀{φ2:Fr},PickF σ φ φ2→∀p∈φ2,∃u,look φ p.1=some u∧∀β,u.den β =(p.2.ren σ).den β
 | [],_,p,hp=>by cases hp
 | q::l,h,p,hp=>by
  rcases List.mem_cons.1 hp with rfl|hp
  ·exact h.1
  ·exact pickF_spec h.2 p hp
section
variable {w0:World} {M:Nat→Prop} {E:Env} {n0 N:Nat} {D:List Deferred} {φ φ2:Fr} {L L2:List HB}
theorem St.pick {a:Act}{w:World}(l:List Nat)(h:St w0 M E n0 N D φ L a w)(h00:l.getD 0 0=0)(hz:hp L2 0=.gone)(hid:idTo n0 l=true)(hpk:PickL (sg l) (hp L) L2 l)(hinj:injL L2 l []=true)(hs:yk_ (hp L2) L2)(hφ : PickF (sg l) φ φ2)(hf:StableF (hp L2) φ2)(hb:bornTo n0 L2=true):St w0 M E n0 N D φ2 L2 a w:=by
 obtain⟨⟨β,hE,R,F⟩,_,h3,h4⟩:=h
 refine⟨⟨fun i=>β (sg l i),fun i hi=>?_,R.pick h00 hz hpk hinj hs,fun t v hv=>?_⟩,fun i hi=>?_,h3,h4⟩
 ·exact d15_
 ·have hm:=look_mem hv
  obtain⟨u,h1,h2⟩:=pickF_spec hφ _ hm
  have hst:=stableF_spec hf _ hm
  refine⟨hst,?_⟩
  rw[(F t u h1).2,h2]
  exact den_ren (h:=hp L2) (fun _ _=>rfl) hst
 ·simp only[bornTo,List.all_eq_true]at hb
  exact hb i (List.mem_range.2 hi)
theorem At.nextPick {α : Type}{p:α→Prop}{φi:α→Fr}{Li:α→List HB}(l:List Nat)(y:α)(hy:p y)(h00:l.getD 0 0=0)(hz:hp (Li y) 0=.gone)(hid:idTo n0 l=true)(hpk:PickL (sg l) (hp L) (Li y) l)(hinj:injL (Li y) l []=true)(hs:yk_ (hp (Li y)) (Li y))(hφ : PickF (sg l) φ (φi y))(hf:StableF (hp (Li y)) (φi y))(hb:bornTo n0 (Li y)=true):At w0 M E n0 N D φ L (fun a w=>∃y,p y∧St w0 M E n0 N D (φi y) (Li y) a w):=
 fun a w hS=>⟨y,hy,hS.pick l h00 hz hid hpk hinj hs hφ hf hb⟩
theorem At.pick {K:Act→World→Prop}(l:List Nat)(h00:l.getD 0 0=0)(hz:hp L2 0=.gone)(hid:idTo n0 l=true)(hpk:PickL (sg l) (hp L) L2 l)(hinj:injL L2 l []=true)(hs:yk_ (hp L2) L2)(hφ : PickF (sg l) φ φ2)(hf:StableF (hp L2) φ2)(hb:bornTo n0 L2=true)(h:At w0 M E n0 N D φ2 L2 K):At w0 M E n0 N D φ L K:=
 fun a w hS=>h a w (hS.pick l h00 hz hid hpk hinj hs hφ hf hb)
end
end Go.Proofs.Ytjliakjbdcplcaa.Vm
end

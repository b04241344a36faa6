import Derived.Test.YtjliakjbdcplcaaU1
import Derived.Test.YtjliakjbdcplcaaU18
import Derived.Test.YtjliakjbdcplcaaU21
set_option linter.unusedSimpArgs false
set_option linter.unusedVariables false
set_option maxRecDepth 100000
set_option maxHeartbeats 4000000
section
namespace Go.Proofs.Ytjliakjbdcplcaa.Vm
open Go.RowKit
attribute [local push_cast] eqB eqBL allB prS zt_ i64S xo_ y3_ y2_ y1_ y0_ yz_ xn_ yy_ yx_ yw_ zy_ zv_ zw_ zu_ y5_ y4_ iOf JM eB prO JE inR inN ym_ memN
theorem goT_lit (P:List Ins)(s:Sta)(v:Evi)(x0:Ins)(u:Nat)(f:Int)(hP:PG P)(V:VOk v)(hG:SG P s)(hu:u≤4611686018427387904)(hf0:0≤f)(hf1:f≤4096)(r:RR)(hr:runA P v f.toNat s x0 [] 0=r):yc_ Try.prog 17 [.ptr 1 [],.int .i64 f] [.gone,rB 2 7 8 9 u true,eB 3 6 P.length,mB s v x0 4 5,cB s,sB s,prO P,.gone,.gone,.gone]
  (.tup [.bool (decide (r.bad=0)),.int .i64 (if r.bad=190 then 0 else r.bad)]) [.gone,rB 2 7 8 9 u true,eB 3 6 P.length,mB r.s v r.x 4 10,cB r.s,.gone,prO P,.gone,.gone,.gone,sB r.s]:=by
 have hrr:rrE f=0:=by unfold rrE;rw[if_neg (by omega)]
 refine zm_ (fn:=Try.f17) 10 44 0 rfl rfl rfl rfl rfl u9_ rfl fun w0 M E hro=>?_
 repeat' (first|refine Ctl.h ?_ |((with_reducible intro hif);first |(focus (cases hif;done)) |((try simp only[JH]at hif);try exact hy_)) |((with_reducible first|apply J22 zp_ za_|apply J23 fol zp_ za_|apply J24);(·rfl);(· exact k69_);(try kernel_rfl);try exact z9_)|fail)
 with_reducible apply WF.range (fn':=Try.f73) 28
 ·exact k42_
 ·exact yq_
 ·rfl
 ·rfl
 ·rfl
 ·rfl
 ·rfl
 ·rfl
 ·rfl
 intro E1 rec tmps after hE1 hrec hcf haft
 repeat' (first|refine Ctl.h ?_ |((with_reducible intro hif);first |(focus (cases hif;done)) |((try simp only[JH]at hif);try exact hy_)) |((with_reducible first|apply J22 zp_ za_|apply J23 fol zp_ za_|apply J24);(·rfl);(· exact k70_);(try kernel_rfl);try exact z9_)|fail)
 refine At.pick (L2:=[.gone,rB 2 7 8 9 u true,eB 3 6 P.length,mB s v x0 4 17,cB s,.gone,prO P,.gone,.gone,.gone,.own 52 (.ptr 1 []) true,.own 4 (.bool false) true,.own 46 (.nat .i64 0) true,pbB 2,fbB f,.raw (.deferred (some [])),.raw (.loop (rec .ready none)),sB s]) (φ2:=[(0,.yl 16),(1,.ptr 13 []),(2,.ptr 14 []),(4,.nat .i64 0)]) [0,1,2,3,4,5,6,7,8,9,10,11,12,13,14,15,16,5] rfl rfl rfl ?_ rfl ?_ ?_ ?_ rfl ?_
 ·exact k24_
 ·exact k59_
 ·exact k45_
 ·exact k59_
 refine WF.loopAt (fun (z:RS)=>RInv P v f r z) (fun (z:RS)=>[(0,.yl 16),(1,.ptr 13 []),(2,.ptr 14 []),(4,.nat .i64 z.k)]) (fun (z:RS)=>[.gone,rB 2 7 8 9 u true,eB 3 6 P.length,mB z.s v z.x 4 17,cB z.s,.gone,prO P,.gone,.gone,.gone,.own 52 (.ptr 1 []) true,.own 4 (.bool false) true,.own 46 (.nat .i64 0) true,pbB 2,fbB f,.raw (.deferred (some [])),.raw (.loop (rec .ready none)),sB z.s]) (fun (z:RS)=>f.toNat - z.k) ⟨0,s,x0,[],0⟩ ⟨Nat.zero_le _,hG,rfl,hr⟩ ?_ ?_ rfl ?_ ?_ rfl ?_
 ·exact k28_
 ·exact k7_
 ·exact k59_
 ·exact k59_
 rintro⟨k,⟨at1,en,rg,ce,dr,se⟩,x,tr,a⟩ ⟨hk,hg,hl,hr1⟩
 dsimp only at hk hg hl hr1 ⊢
 cases en
 ·exact d23_
 ·exact d28_
end Go.Proofs.Ytjliakjbdcplcaa.Vm
end
section
namespace Go.Proofs.Ytjliakjbdcplcaa.Vm
open Go.RowKit
attribute [local push_cast] eqB eqBL allB prS zt_ i64S xo_ y3_ y2_ y1_ y0_ yz_ xn_ yy_ yx_ yw_ zy_ zv_ zw_ zu_ y5_ y4_ iOf
def cBk:FuncId→Option yr_:=xb_ [(46,rN),(44,sBgG)]
theorem cBk_ok:∀f S,cBk f=some S→zh_ Try.prog f S:=zn_ ⟨rN_ok,sBgG_ok,trivial⟩
theorem back_lit (P:List Ins)(v:Evi)(s:Sta)(u:Nat)(w:Bool)(hs:s.sends=[])(hP:∀x∈P,x.ok)(hn:P.length≤1000000)(hc:s.cells.length≤1000000)(hE:openE P v s=0):yc_ Try.prog 22 [.ptr 1 []] [.gone,rB 2 3 4 5 u w,.gone,clA 6 P.length,clB v,clC s 7,prO P,cB s]
  (.int .i64 0) [.gone,rB 8 3 4 5 0 false,.gone,clA 6 P.length,clB v,clC s 7,prO P,cB s,eB 9 12 P.length,mB s v Ins0 10 11,cB s,sB s,prO P]:=by
 obtain⟨a0,e0,rg,cs,d,n0⟩:=s
 dsimp only at hs hc
 subst hs
 refine zm_ (fn:=Try.f22) 8 26 0 rfl rfl rfl rfl rfl (by simp only[zd_,Stable,hp,i64S,prS,insS,zt_,sndS,stS,evS,macS,mB,cB,sB,eB,prO,prR,pbB,fbB,rB,rvS,clA,clB,clC,fsS,HB.stable];simp[HB.born,rB,rvS,clA,clB,clC,prO,cB]) rfl fun w0 M E hro=>?_
 repeat' (first|refine Ctl.h ?_ |((with_reducible intro hif);first |(focus (cases hif;done)) |((try simp only[JH]at hif);try exact hy_)) |((with_reducible first|apply J22 cBk_ok za_|apply J23 fol cBk_ok za_|apply J24);(·rfl);(· (simp only[push_cast,↓JP,Nat.reduceAdd,Nat.reduceEqDiff,Nat.reduceLT,Nat.reduceMul,Nat.reduceLeDiff,reduceCtorEq,reduceIte,↓JK,JM,JE,JB,cBk,rB,rvS,clA,clB,clC,fsS,prO,rN,sBgG,clP,prP,ym_,memN,inR,inN];rfl));(try kernel_rfl);(try (focus (first|exact True.intro |((try simp only[JS,implies_true,forall_const,z3_,z5_,kndOf,inR,inN]);(first|first|omega|exact⟨hP,hn,hc,hE⟩ |(repeat' (first|assumption|exact True.intro|omega|apply And.intro)));done)))))|fail)
 apply At.endsPick [0,1,2,3,4,5,6,7,8,9,10,11,12] za_ (fn:=Try.f22) (rs:=[.tmp 2]) Anc.refl hro (lb_ rfl) rfl
 ·exact k5_
 ·exact yq_
 ·rfl
 ·rfl
 ·rfl
 ·exact k24_
 ·rfl
 ·exact k68_
 ·exact k9_
 ·exact fun β=>rfl
 ·exact k68_
def sNewG:yr_:=fun args h m=>match args with
 | [v1,.agg [v2,v3,v4,v5,v6],.agg [.agg [v7,v8,v9],v10,v11],v12,v13]=>match srcV h 5 (.tup []) v1,srcV h 1 (.tup []) v12 with
  | some (c1,n1,f1,r1),some (c12,n12,f12,r12)=>bif isI .u64 v2 && isI .i64 v3 && isI .i64 v4 && isI .i64 v5 && isI .i64 v6 && isI .i64 v7 && isI .i64 v8 && isI .i64 v9 && isI .i64 v10 && isI .i64 v11 && isI .i64 v13 then some (c1∧c12∧(∀q,q < n1→isIns (f1 q)=true)∧(∀q,q < n12→isI .i64 (f12 q)=true)∧((∀x∈(ls zg_ n1 f1),x.ok))∧(n1≤1000000)∧(n12≤1000000)∧(openE (ls zg_ n1 f1) ⟨(iOf v2),(iOf v3),(iOf v4),(iOf v5),(iOf v6)⟩ (ya_ (iOf v11) (iOf v7) (iOf v8) (ls iOf n12 f12) (iOf v13))=0),.tup [.ptr m [],.int .i64 0],r1++r12,[(m,rB (m+1) (m+6) (m+7) (m+8) 0 false),(m+1,eB (m+2) (m+5) (ls zg_ n1 f1).length),(m+2,mB (ya_ (iOf v11) (iOf v7) (iOf v8) (ls iOf n12 f12) (iOf v13)) ⟨(iOf v2),(iOf v3),(iOf v4),(iOf v5),(iOf v6)⟩ Ins0 (m+3) (m+4)),(m+3,cB (ya_ (iOf v11) (iOf v7) (iOf v8) (ls iOf n12 f12) (iOf v13))),(m+4,sB (ya_ (iOf v11) (iOf v7) (iOf v8) (ls iOf n12 f12) (iOf v13))),(m+5,prO (ls zg_ n1 f1)),(m+6,clA (m+9) (ls zg_ n1 f1).length),(m+7,clB ⟨(iOf v2),(iOf v3),(iOf v4),(iOf v5),(iOf v6)⟩),(m+8,clC (ya_ (iOf v11) (iOf v7) (iOf v8) (ls iOf n12 f12) (iOf v13)) (m+10)),(m+9,prO (ls zg_ n1 f1)),(m+10,cB (ya_ (iOf v11) (iOf v7) (iOf v8) (ls iOf n12 f12) (iOf v13)))])else none
  | _,_=>none
 | _=>none
theorem sNewG_ok:zh_ Try.prog 16 sNewG:=by
 refine⟨zf_ (by kernel_rfl),fun args h m c v rd wr hs hm hc w0 M β h' w R hrd hwr hst=>?_⟩
 unfold sNewG at hs
 split at hs
 ·rename_i v1 v2 v3 v4 v5 v6 v7 v8 v9 v10 v11 v12 v13
  split at hs
  ·rename_i c1 n1 f1 r1 c12 n12 f12 r12 a1 a12
   obtain⟨hb,hs⟩:=zj_ hs
   simp only[Option.some.injEq,Prod.mk.injEq]at hs
   obtain⟨rfl,rfl,rfl,rfl⟩:=hs
   simp only[Bool.and_eq_true]at hb
   obtain⟨⟨⟨⟨⟨⟨⟨⟨⟨⟨b2,b3⟩,b4⟩,b5⟩,b6⟩,b7⟩,b8⟩,b9⟩,b10⟩,b11⟩,b13⟩:=hb
   obtain⟨k1,k12,g1,g12,y1,y2,y3,y4⟩:=hc
   obtain⟨A1,p1,d1,e1,t1⟩:=zk_ R a1 k1 (fun i hi=>hrd i (List.mem_append_left _ hi)) (by omega)
   obtain⟨A12,p12,d12,e12,t12⟩:=zk_ R a12 k12 (fun i hi=>hrd i (List.mem_append_right _ hi)) (by omega)
   refine y9_ (views:=[⟨5,(ls zg_ n1 f1).length,prS (ls zg_ n1 f1),A1,p1⟩,⟨1,(ls iOf n12 f12).length,i64S (ls iOf n12 f12),A12,p12⟩]) (new_good (ls zg_ n1 f1) ⟨(iOf v2),(iOf v3),(iOf v4),(iOf v5),(iOf v6)⟩ (iOf v7) (iOf v8) (iOf v9) (iOf v10) (iOf v11) (iOf v13) (ls iOf n12 f12) p1 p12 y1 (by rw[zb_];exact y2) (by rw[zb_];exact y3) y4) ?_ R hm hwr ?_ ?_ ?_
   ·exact d21_
   ·intro β1 hv
    simp only[Vd,zb_,and_true]at hv
    obtain⟨z1,z12⟩:=hv
    simp only[denL,yp_,yo_,yn_,z6_,zb_,z1,z12,d1,d12,zc_ b2,zc_ b3,zc_ b4,zc_ b5,zc_ b6,zc_ b7,zc_ b8,zc_ b9,zc_ b10,zc_ b11,zc_ b13]
   ·exact k68_
   ·exact k68_
  ·cases hs
 ·cases hs
theorem litNat {f:FuncId}{a:SV}{k:IntKind}{n:Nat}{L0 L1:List HB}{v:SV}(H:yc_ Try.prog f [a,.int k n] L0 v L1):yc_ Try.prog f [a,.nat k n] L0 v L1:=fun w0 M β w R=>H w0 M β w R
def runP (h:HM)(r:Nat):Option (Nat×Bool×(Sta×Evi×Ins×List Ins)×(Nat×Nat×Nat×Nat×Nat)×(Nat×Nat×Nat)×Prop):=match h r with
 | .own t (.agg [.ptr e [],.fn fi [.ptr a [],.ptr b [],.ptr c []],.nat .i64 u,.bool w]) true=>match engP h e with
  | some (s,v,x,P,(g,c1,k,i),ok)=>bif Nat.beq t 125 && Nat.beq fi 44 && ym_ [0,r,e,g,c1,k,i,a,b,c] && ((h a).born && (h b).born && (h c).born)then some (u,w,(s,v,x,P),(e,g,c1,k,i),(a,b,c),ok)else none
  | none=>none
 | _=>none
theorem runP_val {h:HM}{r u:Nat}{w:Bool}{s:Sta}{v:Evi}{x:Ins}{P:List Ins}{e g c1 k i a b c:Nat}{ok:Prop}(hp:runP h r=some (u,w,(s,v,x,P),(e,g,c1,k,i),(a,b,c),ok)) :
  h r=rB e a b c u w∧engP h e=some (s,v,x,P,(g,c1,k,i),ok)∧ym_ [0,r,e,g,c1,k,i,a,b,c]=true∧(h a).born=true∧(h b).born=true∧(h c).born=true:=by
 unfold runP at hp
 split at hp
 ·rename_i t e fi a b c u w hr
  split at hp
  ·rename_i s v x P g c1 k i ok he
   obtain⟨hb,hs⟩:=zj_ hp
   simp only[Option.some.injEq,Prod.mk.injEq]at hs
   obtain⟨rfl,rfl,⟨rfl,rfl,rfl,rfl⟩,⟨rfl,rfl,rfl,rfl,rfl⟩,⟨rfl,rfl,rfl⟩,rfl⟩:=hs
   simp only[Bool.and_eq_true]at hb
   obtain⟨⟨⟨b1,b2⟩,hnd⟩,⟨b4,b5⟩,b6⟩:=hb
   have b1:=Nat.eq_of_beq_eq_true b1
   have b2:=Nat.eq_of_beq_eq_true b2
   subst b1 b2
   exact⟨hr,he,hnd,b4,b5,b6⟩
  ·cases hp
 ·cases hp
def goU (u:Nat)(w:Bool)(r:RR):Nat:=bif w then u else u+r.tr.length
def goW (w:Bool)(r:RR):Bool:=bif w then true else(decide (r.bad≠0) && decide (r.bad≠190))
def goV (r:RR):SV:=.tup [.bool (decide (r.bad=0)),.int .i64 (if r.bad=190 then 0 else r.bad)]
theorem go_lit (P:List Ins)(s:Sta)(v:Evi)(x0:Ins)(u:Nat)(w:Bool)(f:Int)(hP:PG P)(V:VOk v)(hG:SG P s)(hu:u≤4611686018427387904)(hf0:0≤f)(hf1:f≤4096)(r:RR)(hr:runA P v f.toNat s x0 [] 0=r):yc_ Try.prog 17 [.ptr 1 [],.int .i64 f] [.gone,rB 2 7 8 9 u w,eB 3 6 P.length,mB s v x0 4 5,cB s,sB s,prO P,.gone,.gone,.gone]
  (goV r) [.gone,rB 2 7 8 9 (goU u w r) (goW w r),eB 3 6 P.length,mB r.s v r.x 4 10,cB r.s,.gone,prO P,.gone,.gone,.gone,sB r.s]:=by
 cases w
 ·exact goF_lit P s v x0 u f hP V hG hu hf0 hf1 r hr
 ·exact goT_lit P s v x0 u f hP V hG hu hf0 hf1 r hr
def rGoQ (r:Nat)(f:Int)(h:HM)(m:Nat):Option (Prop×SV×List Nat×List (Nat×HB)):=match runP h r with
 | some (u,w,(s,v,x,P),(e,g,c1,k,i),(a,b,c),ok)=>some (ok∧PG P∧VOk v∧SG P s∧u≤4611686018427387904∧0≤f∧f≤4096,goV (runA P v f.toNat s x [] 0),[r,e,g,c1,k,i,a,b,c],[(r,rB e a b c (goU u w (runA P v f.toNat s x [] 0)) (goW w (runA P v f.toNat s x [] 0))),(e,eB g i P.length),(g,mB (runA P v f.toNat s x [] 0).s v (runA P v f.toNat s x [] 0).x c1 m),(c1,cB (runA P v f.toNat s x [] 0).s),(k,.gone),(i,prO P),(m,sB (runA P v f.toNat s x [] 0).s)])
 | none=>none
def rGo:yr_:=fun args h m=>match args with
 | [.ptr r [],.int .i64 f]=>rGoQ r f h m
 | [.ptr r [],.nat .i64 n]=>rGoQ r n h m
 | _=>none
theorem rGo_ok:zh_ Try.prog 17 rGo:=by
 refine⟨zf_ (by kernel_rfl),fun args h m c v rd wr hs hm hc w0 M β h' w R hrd hwr hst=>?_⟩
 unfold rGo at hs
 split at hs
 ·rename_i r f
  unfold rGoQ at hs
  split at hs
  ·rename_i u w s v x P e g c1 k i a b c ok hrp
   simp only[Option.some.injEq,Prod.mk.injEq]at hs
   obtain⟨rfl,rfl,rfl,rfl⟩:=hs
   obtain⟨hr,hep,hnd,ba,bb,bc⟩:=runP_val hrp
   obtain⟨ok1,ok2,rfl,hmp,hpp,he,_⟩:=engP_val hep
   obtain⟨⟨hok,hok2⟩,hP,hV,hG,hu,hf0,hf1⟩:=hc
   have er:=hrd r (by simp)
   have ee:=hrd e (by simp)
   have eg:=hrd g (by simp)
   have ec:=hrd c1 (by simp)
   have ek:=hrd k (by simp)
   have ei:=hrd i (by simp)
   exact bun_ok (h:=h) (m:=m) [0,r,e,g,c1,k,i,a,b,c] (go_lit P s v x u w f hP hV hG hu hf0 hf1 _ rfl) R rfl (by simp) rfl rfl hnd
    ⟨Fit.gone (by rw[R.nil0];rfl),bun_run hr er rfl rfl rfl rfl,bun_engO he ee rfl rfl,bun_mac hmp hok eg rfl rfl,bun_cel hmp hok ec,bun_snd hmp hok ek,bun_prO hpp hok2 ei,Fit.gone (by rw[hrd a (by simp)];exact ba),Fit.gone (by rw[hrd b (by simp)];exact bb),Fit.gone (by rw[hrd c (by simp)];exact bc),trivial⟩ hm
    (fun p hp=>by
     simp only[newB,List.drop,List.length_cons,List.length_nil,List.mem_cons,List.not_mem_nil,or_false]at hp
     subst hp
     exact hwr _ (.tail _ (.tail _ (.tail _ (.tail _ (.tail _ (.tail _ (.head _)))))))) (by simp) rfl
    ⟨trivial,rB_st rfl rfl rfl rfl,eB_st rfl rfl,mB_st rfl rfl,cB_st,sB_st,prO_st,trivial,trivial,trivial,trivial⟩ ⟨rfl,trivial,trivial⟩
    ⟨trivial,rB_st rfl rfl rfl rfl,eB_st rfl rfl,mB_st rfl rfl,cB_st,trivial,prO_st,trivial,trivial,trivial,sB_st,trivial⟩ (⟨trivial,trivial,trivial⟩) rfl rfl (by show [(r,(rB 2 7 8 9 _ _).ren _),(e,(eB 3 6 _).ren _),(g,(mB _ v _ 4 10).ren _),(c1,(cB _).ren _),(k,HB.gone.ren _),(i,(prO P).ren _),(m,(sB _).ren _)]=_;rw[rB_ren,eB_ren,mB_ren,cB_ren,sB_ren,prO_ren];simp[y6_,HB.ren])
  ·cases hs
 ·rename_i r f
  unfold rGoQ at hs
  split at hs
  ·rename_i u w s v x P e g c1 k i a b c ok hrp
   simp only[Option.some.injEq,Prod.mk.injEq]at hs
   obtain⟨rfl,rfl,rfl,rfl⟩:=hs
   obtain⟨hr,hep,hnd,ba,bb,bc⟩:=runP_val hrp
   obtain⟨ok1,ok2,rfl,hmp,hpp,he,_⟩:=engP_val hep
   obtain⟨⟨hok,hok2⟩,hP,hV,hG,hu,hf0,hf1⟩:=hc
   have er:=hrd r (by simp)
   have ee:=hrd e (by simp)
   have eg:=hrd g (by simp)
   have ec:=hrd c1 (by simp)
   have ek:=hrd k (by simp)
   have ei:=hrd i (by simp)
   exact bun_ok (h:=h) (m:=m) [0,r,e,g,c1,k,i,a,b,c] (litNat (go_lit P s v x u w (f:Int) hP hV hG hu hf0 hf1 _ rfl)) R rfl (by simp) rfl rfl hnd
    ⟨Fit.gone (by rw[R.nil0];rfl),bun_run hr er rfl rfl rfl rfl,bun_engO he ee rfl rfl,bun_mac hmp hok eg rfl rfl,bun_cel hmp hok ec,bun_snd hmp hok ek,bun_prO hpp hok2 ei,Fit.gone (by rw[hrd a (by simp)];exact ba),Fit.gone (by rw[hrd b (by simp)];exact bb),Fit.gone (by rw[hrd c (by simp)];exact bc),trivial⟩ hm
    (fun p hp=>by
     simp only[newB,List.drop,List.length_cons,List.length_nil,List.mem_cons,List.not_mem_nil,or_false]at hp
     subst hp
     exact hwr _ (.tail _ (.tail _ (.tail _ (.tail _ (.tail _ (.tail _ (.head _)))))))) (by simp) rfl
    ⟨trivial,rB_st rfl rfl rfl rfl,eB_st rfl rfl,mB_st rfl rfl,cB_st,sB_st,prO_st,trivial,trivial,trivial,trivial⟩ ⟨rfl,trivial,trivial⟩
    ⟨trivial,rB_st rfl rfl rfl rfl,eB_st rfl rfl,mB_st rfl rfl,cB_st,trivial,prO_st,trivial,trivial,trivial,sB_st,trivial⟩ (⟨trivial,trivial,trivial⟩) rfl rfl (by show [(r,(rB 2 7 8 9 _ _).ren _),(e,(eB 3 6 _).ren _),(g,(mB _ v _ 4 10).ren _),(c1,(cB _).ren _),(k,HB.gone.ren _),(i,(prO P).ren _),(m,(sB _).ren _)]=_;rw[rB_ren,eB_ren,mB_ren,cB_ren,sB_ren,prO_ren];simp[y6_,HB.ren])
  ·cases hs
 ·cases hs
def rStateQ (r:Nat)(f:Int)(h:HM)(m:Nat):Option (Prop×SV×List Nat×List (Nat×HB)):=match runP h r with
 | some (u,w,(s,v,x,P),(e,g,c1,k,i),(a,b,c),ok)=>some (ok∧s.cells.length≤1000000∧s.sends.length≤1000000,stS s m (m+1),[r,e,g,c1,k,i,a,b,c],[(r,rB e a b c u w),(e,eB g i P.length),(g,mB s v x c1 k),(c1,cB s),(k,sB s),(i,prO P),(m,cB s),(m+1,sB s)])
 | none=>none
def rState:yr_:=fun args h m=>match args with
 | [.ptr r []]=>rStateQ r 0 h m
 | _=>none
theorem rState_ok:zh_ Try.prog 18 rState:=by
 refine⟨zf_ (by kernel_rfl),fun args h m c v rd wr hs hm hc w0 M β h' w R hrd hwr hst=>?_⟩
 unfold rState at hs
 split at hs
 ·rename_i r
  unfold rStateQ at hs
  split at hs
  ·rename_i u w s v x P e g c1 k i a b c ok hrp
   simp only[Option.some.injEq,Prod.mk.injEq]at hs
   obtain⟨rfl,rfl,rfl,rfl⟩:=hs
   obtain⟨hr,hep,hnd,ba,bb,bc⟩:=runP_val hrp
   obtain⟨ok1,ok2,rfl,hmp,hpp,he,_⟩:=engP_val hep
   obtain⟨⟨hok,hok2⟩,hc1,hs1⟩:=hc
   have er:=hrd r (by simp)
   have ee:=hrd e (by simp)
   have eg:=hrd g (by simp)
   have ec:=hrd c1 (by simp)
   have ek:=hrd k (by simp)
   have ei:=hrd i (by simp)
   exact bun_ok (h:=h) (m:=m) [0,r,e,g,c1,k,i,a,b,c] (rstate_lit P s v x u w hc1 hs1) R rfl (by simp) rfl rfl hnd
    ⟨Fit.gone (by rw[R.nil0];rfl),bun_run hr er rfl rfl rfl rfl,bun_engO he ee rfl rfl,bun_mac hmp hok eg rfl rfl,bun_cel hmp hok ec,bun_snd hmp hok ek,bun_prO hpp hok2 ei,Fit.gone (by rw[hrd a (by simp)];exact ba),Fit.gone (by rw[hrd b (by simp)];exact bb),Fit.gone (by rw[hrd c (by simp)];exact bc),trivial⟩ hm
    (fun p hp=>by
     simp only[newB,List.drop,List.length_cons,List.length_nil,List.mem_cons,List.not_mem_nil,or_false]at hp
     rcases hp with rfl|rfl
     ·exact hwr (m,cB s) (by simp)
     ·exact hwr (m+1,sB s) (by simp)) (by simp) rfl
    ⟨trivial,rB_st rfl rfl rfl rfl,eB_st rfl rfl,mB_st rfl rfl,cB_st,sB_st,prO_st,trivial,trivial,trivial,trivial⟩ ⟨rfl,trivial⟩
    ⟨trivial,rB_st rfl rfl rfl rfl,eB_st rfl rfl,mB_st rfl rfl,cB_st,sB_st,prO_st,trivial,trivial,trivial,cB_st,sB_st,trivial⟩ (by simp[stS,Stable,zd_];exact⟨rfl,rfl⟩) rfl rfl (by show [(r,(rB 2 7 8 9 _ _).ren _),(e,(eB 3 6 _).ren _),(g,(mB _ v _ 4 5).ren _),(c1,(cB _).ren _),(k,(sB _).ren _),(i,(prO P).ren _),(m,(cB _).ren _),(m+1,(sB _).ren _)]=_;rw[rB_ren,eB_ren,mB_ren,cB_ren,sB_ren,prO_ren];rfl)
  ·cases hs
 ·cases hs
end Go.Proofs.Ytjliakjbdcplcaa.Vm
end
section
namespace Go.Proofs.Ytjliakjbdcplcaa.Vm
open Go.RowKit
def rUsedQ (r:Nat)(f:Int)(h:HM)(m:Nat):Option (Prop×SV×List Nat×List (Nat×HB)):=match h r with
 | .own t (.agg [.ptr e [],.fn fi [.ptr a [],.ptr b [],.ptr c []],.nat .i64 u,.bool w]) true=>bif Nat.beq t 125 && Nat.beq fi 44 && ym_ [0,r,e,a,b,c] && ((h e).born && (h a).born && (h b).born && (h c).born)then some (True,.nat .i64 u,[r,e,a,b,c],[(r,rB e a b c u w)])else none
 | _=>none
def rUsed:yr_:=fun args h m=>match args with
 | [.ptr r []]=>rUsedQ r 0 h m
 | _=>none
theorem rUsed_ok:zh_ Try.prog 19 rUsed:=by
 refine⟨zf_ (by kernel_rfl),fun args h m c v rd wr hs hm hc w0 M β h' w R hrd hwr hst=>?_⟩
 unfold rUsed at hs
 split at hs
 ·rename_i r
  unfold rUsedQ at hs
  split at hs
  ·rename_i t e fi a b c u w hr
   obtain⟨hb,hs⟩:=zj_ hs
   simp only[Option.some.injEq,Prod.mk.injEq]at hs
   obtain⟨rfl,rfl,rfl,rfl⟩:=hs
   simp only[Bool.and_eq_true]at hb
   obtain⟨⟨⟨b1,b2⟩,hnd⟩,⟨⟨b3,b4⟩,b5⟩,b6⟩:=hb
   have b1:=Nat.eq_of_beq_eq_true b1
   have b2:=Nat.eq_of_beq_eq_true b2
   subst b1 b2
   exact bun_ok (h:=h) (m:=m) [0,r,e,a,b,c] (used_lit u w) R rfl (by simp) rfl rfl hnd
    ⟨Fit.gone (by rw[R.nil0];rfl),bun_run hr (hrd r (by simp)) rfl rfl rfl rfl,Fit.gone (by rw[hrd e (by simp)];exact b3),Fit.gone (by rw[hrd a (by simp)];exact b4),Fit.gone (by rw[hrd b (by simp)];exact b5),Fit.gone (by rw[hrd c (by simp)];exact b6),trivial⟩ hm
    (fun p hp=>by cases hp) (by simp) rfl
    ⟨trivial,rB_st rfl rfl rfl rfl,trivial,trivial,trivial,trivial,trivial⟩ ⟨rfl,trivial⟩
    ⟨trivial,rB_st rfl rfl rfl rfl,trivial,trivial,trivial,trivial,trivial⟩ (by simp[Stable,zd_]) rfl rfl rfl
  ·cases hs
 ·cases hs
theorem bun_clA {ρ : Nat→Nat}{h h':HM}{a i x n:Nat}(ha:h a=clA i n)(ea:h' a=h a)(hx:ρ x=i):Bun1 ρ (h' a) (clA x n):=by
 show Less (h' a) (.own 35 ((SV.sl x x [] 5 0 n none).ren ρ) true)
 rw[ea,ha]
 simp only[SV.ren,hx]
 exact .same _
theorem bun_clB {ρ : Nat→Nat}{h h':HM}{b:Nat}{v:Evi}(hb:h b=clB v)(eb:h' b=h b):Bun1 ρ (h' b) (clB v):=by
 show Less (h' b) (.own 30 ((evS v).ren ρ) true)
 rw[eb,hb]
 exact .same _
theorem bun_clJO {ρ : Nat→Nat}{h h':HM}{j:Nat}{s:Sta}{cf:Nat→SV}(hj:h j=.own 2 (.arr s.cells.length 1 cf) false)(hr:∀q,q < s.cells.length→isI .i64 (cf q)=true)(hq:s.cells=ls iOf s.cells.length cf)(ej:h' j=h j):Bun1 ρ (h' j) (cB s):=by
 show Less (h' j) (.own 2 (.arr s.cells.length 1 (i64S s.cells)) false)
 rw[ej,hj]
 refine .val (fun β=>arrCl fun q hlt=>?_) (fun n k f e=>by injection e with e1 e2 e3;subst e1 e2;exact⟨_,rfl⟩) (fun n k f e=>by injection e with e1 e2 e3;subst e1 e2;exact⟨_,rfl⟩)
 rw[isI_cl (hr q hlt)]
 unfold i64S
 rw[hq,ls_getD hlt];rfl
def rBack:yr_:=fun args h m=>match args with
 | [.ptr r []]=>match h r with
  | .own t (.agg [.ptr e [],.fn fi [.ptr a [],.ptr b [],.ptr c []],.nat .i64 u,.bool w]) true=>match clP h a b c with
   | some (P,v,s,i,j,ok)=>bif Nat.beq t 125 && Nat.beq fi 44 && ym_ [0,r,e,a,b,c,i,j] && (h e).born then
     some (ok∧(∀x∈P,x.ok)∧P.length≤1000000∧s.cells.length≤1000000∧openE P v s=0,.int .i64 0,[r,e,a,b,c,i,j],
      [(r,rB m a b c 0 false),(a,clA i P.length),(b,clB v),(c,clC s j),(i,prO P),(j,cB s),(m,eB (m+1) (m+4) P.length),(m+1,mB s v Ins0 (m+2) (m+3)),(m+2,cB s),(m+3,sB s),(m+4,prO P)])else none
   | none=>none
  | _=>none
 | _=>none
theorem rBack_ok:zh_ Try.prog 22 rBack:=by
 refine⟨zf_ (by kernel_rfl),fun args h m c v rd wr hs hm hc w0 M β h' w R hrd hwr hst=>?_⟩
 unfold rBack at hs
 split at hs
 ·rename_i r
  split at hs
  ·rename_i t e fi a b c u w hr
   split at hs
   ·rename_i P v s i j ok hcp
    obtain⟨hb,hs⟩:=zj_ hs
    simp only[Option.some.injEq,Prod.mk.injEq]at hs
    obtain⟨rfl,rfl,rfl,rfl⟩:=hs
    simp only[Bool.and_eq_true]at hb
    obtain⟨⟨⟨b1,b2⟩,hnd⟩,be⟩:=hb
    have b1:=Nat.eq_of_beq_eq_true b1
    have b2:=Nat.eq_of_beq_eq_true b2
    subst b1 b2
    obtain⟨hs0,ok2,rg,cf,rfl,hpp,ha,hbb,hcc,hj,hq,hql⟩:=clP_val hcp
    obtain⟨⟨hok2,hrg,hcf⟩,hP,hn,hcl,hE⟩:=hc
    have hwrm:∀p∈[(m,eB (m+1) (m+4) P.length),(m+1,mB s v Ins0 (m+2) (m+3)),(m+2,cB s),(m+3,sB s),(m+4,prO P)],h' p.1=h p.1:=fun p hp=>hwr p (.tail _ (.tail _ (.tail _ (.tail _ (.tail _ (.tail _ hp))))))
    exact bun_ok (h:=h) (m:=m) [0,r,e,a,b,c,i,j] (back_lit P v s u w hs0 hP hn hcl hE) R rfl (by simp) rfl rfl hnd
     ⟨Fit.gone (by rw[R.nil0];rfl),bun_run hr (hrd r (by simp)) rfl rfl rfl rfl,Fit.gone (by rw[hrd e (by simp)];exact be),bun_clA ha (hrd a (by simp)) rfl,bun_clB hbb (hrd b (by simp)),(bun_clC hcc hrg hq (hrd c (by simp)) rfl rfl).2,bun_prO hpp hok2 (hrd i (by simp)),bun_clJO hj hcf hql (hrd j (by simp)),trivial⟩ hm
     (fun p hp=>by
      simp only[newB,List.drop,List.length_cons,List.length_nil,List.mem_cons,List.not_mem_nil,or_false]at hp
      rcases hp with rfl|rfl|rfl|rfl|rfl
      ·exact hwrm (m,eB (m+1) (m+4) P.length) (by simp)
      ·exact hwrm (m+1,mB s v Ins0 (m+2) (m+3)) (by simp)
      ·exact hwrm (m+2,cB s) (by simp)
      ·exact hwrm (m+3,sB s) (by simp)
      ·exact hwrm (m+4,prO P) (by simp)) (by simp) rfl
     ⟨trivial,rB_st rfl rfl rfl rfl,trivial,clA_st rfl,clB_st,clC_st rfl rfl,prO_st,cB_st,trivial⟩ ⟨rfl,trivial⟩
     ⟨trivial, rB_st rfl rfl rfl rfl, trivial, clA_st rfl, clB_st, clC_st rfl rfl, prO_st, cB_st, eB_st rfl rfl, mB_st rfl rfl, cB_st, sB_st, prO_st, trivial⟩ trivial rfl rfl (by
      show [(r,(rB 8 3 4 5 0 false).ren _),(a,(clA 6 _).ren _),(b,(clB v).ren _),(c,(clC s 7).ren _),(i,(prO P).ren _),(j,(cB s).ren _),(m,(eB 9 12 _).ren _),(m+1,(mB s v Ins0 10 11).ren _),(m+2,(cB s).ren _),(m+3,(sB s).ren _),(m+4,(prO P).ren _)]=_
      rw[rB_ren,eB_ren,mB_ren,cB_ren,sB_ren,prO_ren]
      simp[y6_,clA,clB,clC,HB.ren,SV.ren,renL,fsS,evS])
   ·cases hs
  ·cases hs
 ·cases hs
end Go.Proofs.Ytjliakjbdcplcaa.Vm
end

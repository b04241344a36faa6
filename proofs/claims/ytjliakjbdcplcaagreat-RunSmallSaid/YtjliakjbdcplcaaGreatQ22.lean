import Derived.Test.YtjliakjbdcplcaaGreatQ1
import Derived.Test.YtjliakjbdcplcaaGreatQ9
import Derived.Test.YtjliakjbdcplcaaGreatQ10
import Derived.Test.YtjliakjbdcplcaaGreatQ19
import Derived.Test.YtjliakjbdcplcaaGreatQ20
import Derived.Test.YtjliakjbdcplcaaGreatQ21
set_option linter.unusedSimpArgs false
set_option linter.unusedVariables false
set_option maxRecDepth 100000
set_option maxHeartbeats 4000000
section
open Go.Proofs.YtjliakjbdcplcaaGreat.Vm Go.RowKit
attribute [local push_cast] prS zo_ zp_ xt_ y8_ y7_ y6_ y5_ y4_ xs_ y3_ y2_ y1_ zn_ z2_ z4_ z1_ zu_ zt_ iOf
section
namespace Go.Proofs.YtjliakjbdcplcaaGreat.Vm
open Go.RowKit
def sCl64:yn_:=fun args h m=>match args with
 | [v]=>match xm_ h 1 (.tup []) v with
  | some (c,n,f,rd)=>some (c∧(∀q,q < n→isI .i64 (f q)=true)∧n≤1000000,.sl m m [] 1 0 n none,rd,[(m,.own 2 (.arr n 1 (zp_ (ls iOf n f))) false)])
  | _=>none
 | _=>none
theorem sCl64_ok:zi_ Tryz.prog 35 sCl64:=by
 refine⟨zg_ (by kernel_rfl),fun args h m c v rd wr hs hm hc w0 M β h' w R hrd hwr hst=>?_⟩
 unfold sCl64 at hs
 split at hs
 ·rename_i v0
  split at hs
  ·rename_i c' n f rd' ha
   simp only[Option.some.injEq,Prod.mk.injEq]at hs
   obtain⟨rfl,rfl,rfl,rfl⟩:=hs
   obtain⟨hc1,hi,hn⟩:=hc
   obtain⟨A,cap,hden,hnc,hr⟩:=zh_ R ha hc1 hrd (by omega)
   simp only[denL,hden]
   refine(clone64_c A n cap _ w hr (fun u hu=>elems_sane u hu) (by omega)).mono fun e w' he=>?_
   obtain⟨p,rfl,ho,hb⟩:=he
   have hmd:h' m=.dead:=(hwr _ (.head _)).trans (hm m (Nat.le_refl _))
   obtain ⟨e', R', hv⟩ := (R.below hb).made (f := zp_ (ls iOf n f)) hmd ho R.size (by
     rw[elems_i64 hi]
     have:=elems_i64S (β:=β) (ls iOf n f)
     rwa [zb_] at this) yy_ (fun g i a' hg hmi hai e=>by
    have:=R.lt i a' hmi hai
    obtain⟨_,⟨rfl,_⟩|⟨g',cap',cur,rfl,hg',_⟩⟩:=ho
    ·cases hg
    ·simp[Value.ownBlock]at hg
     omega)
   exact⟨_,ym_ hmd,R',stable_new,by rw[hv]⟩
  ·cases hs
 ·cases hs
def sClSn:yn_:=fun args h m=>match args with
 | [v]=>match xm_ h 3 (.tup []) v with
  | some (c,n,f,rd)=>some (c∧(∀q,q < n→isSnd (f q)=true)∧n≤1000000,.sl m m [] 3 0 n none,rd,[(m,.own 125 (.arr n 3 (zo_ (ls zw_ n f))) false)])
  | _=>none
 | _=>none
theorem sClSn_ok:zi_ Tryz.prog 123 sClSn:=by
 refine⟨zg_ (by kernel_rfl),fun args h m c v rd wr hs hm hc w0 M β h' w R hrd hwr hst=>?_⟩
 unfold sClSn at hs
 split at hs
 ·rename_i v0
  split at hs
  ·rename_i c' n f rd' ha
   simp only[Option.some.injEq,Prod.mk.injEq]at hs
   obtain⟨rfl,rfl,rfl,rfl⟩:=hs
   obtain⟨hc1,hi,hn⟩:=hc
   obtain⟨A,cap,hden,hnc,hr⟩:=zh_ R ha hc1 hrd (by omega)
   simp only[denL,hden]
   refine(cloneSend_c A n cap _ w hr (fun u hu=>elems_sane u hu) (by omega)).mono fun e w' he=>?_
   obtain⟨p,rfl,ho,hb⟩:=he
   have hmd:h' m=.dead:=(hwr _ (.head _)).trans (hm m (Nat.le_refl _))
   obtain ⟨e', R', hv⟩ := (R.below hb).made (f := zo_ (ls zw_ n f)) hmd ho R.size (by
     rw[elems_snd hi]
     have:=elems_sndsS (β:=β) (ls zw_ n f)
     rwa [zb_] at this) xe_ (fun g i a' hg hmi hai e=>by
    have:=R.lt i a' hmi hai
    obtain⟨_,⟨rfl,_⟩|⟨g',cap',cur,rfl,hg',_⟩⟩:=ho
    ·cases hg
    ·simp[Value.ownBlock]at hg
     omega)
   exact⟨_,ym_ hmd,R',stable_new,by rw[hv]⟩
  ·cases hs
 ·cases hs
def cCp:FuncId→Option yn_:=y9_ [(35,sCl64),(123,sClSn)]
theorem cCp_ok:∀f S,cCp f=some S→zi_ Tryz.prog f S:=zr_ ⟨sCl64_ok,sClSn_ok,trivial⟩
theorem copied_lit (s:Sta)(p1 p2:Nat)(hc:s.cells.length≤1000000)(hs:s.sends.length≤1000000):zs_ Tryz.prog 93 [.agg [.int .i64 s.at_,.bool s.ended,.arr 8 1 (fun q=>.int .i64 (s.regs q)),.sl 1 2 [] 1 0 s.cells.length (some p1),.int .i64 s.draws,.sl 3 4 [] 3 0 s.sends.length (some p2)]] [.gone,.gone,.ro (.arr s.cells.length 1 (zp_ s.cells)),.gone,.ro (.arr s.sends.length 3 (zo_ s.sends))] (stS s 5 6) [.gone,.gone,.gone,.gone,.gone,cB s,sB s]:=by
 refine zf_ (fn:=Tryz.f93) 5 12 0 rfl rfl rfl rfl rfl u14_ rfl fun w0 M E hro=>?_
 repeat' (first|refine Ctl.h ?_ |((with_reducible intro hif);first |(focus (cases hif;done)) |((try simp only[JH]at hif);try exact hy_)) |((with_reducible first|apply J22 cCp_ok za_|apply J23 fol cCp_ok za_|apply J24);(·rfl);(· (simp only[push_cast,↓JP,Nat.reduceAdd,Nat.reduceEqDiff,Nat.reduceLT,Nat.reduceMul,Nat.reduceLeDiff,reduceCtorEq,reduceIte,↓JK,JM,cCp,sCl64,sClSn,JE,inR,inN];rfl));(try kernel_rfl);try exact k15_)|fail)
 apply At.endsPick [0,1,2,3,4,7,8] za_ (fn:=Tryz.f93) (rs:=[.cell 2 60]) Anc.refl hro (lb_ rfl) rfl
 ·exact yl_
 ·exact xz_
 ·rfl
 ·rfl
 ·rfl
 ·exact k40_
 ·rfl
 ·exact xg_
 ·exact k9_
 ·exact fun β=>rfl
 ·exact xg_
theorem vright_lit (v:Evi):zs_ Tryz.prog 138 [.agg [.int .u64 v.seed,.int .i64 v.process,.int .i64 v.ports,.int .i64 v.look,.int .i64 v.now]] [.gone] (.bool v.rightB) [.gone]:=by
 refine zf_ (fn:=Tryz.f138) 1 31 0 rfl rfl rfl rfl rfl u14_ rfl fun w0 M E hro=>?_
 repeat' (first|refine Ctl.h ?_ |((with_reducible intro hif);first |(focus (cases hif;done)) |((try simp only[JH]at hif);try exact hy_)) |((with_reducible first|apply J22 cCp_ok za_|apply J23 fol cCp_ok za_|apply J24);(·rfl);(· exact k111_);(try kernel_rfl);try exact k15_)|fail)
 apply At.endsRet za_ (fn:=Tryz.f138) (rs:=[.tmp 2]) Anc.refl hro (lb_ rfl) rfl
 ·exact yl_
 ·exact k6_
 ·exact k7_
 ·rfl
 ·exact xg_
 ·exact k9_
 ·intro β;simp[resS,SV.den,Evi.rightB,Bool.and_assoc]
 ·exact xg_
theorem sright_lit (s:Sta)(n:Int)(p1 p2:Nat)(hc:s.cells.length≤1000000):zs_ Tryz.prog 139 [.agg [.int .i64 s.at_,.bool s.ended,.arr 8 1 (fun q=>.int .i64 (s.regs q)),.sl 1 2 [] 1 0 s.cells.length (some p1),.int .i64 s.draws,.sl 3 4 [] 3 0 s.sends.length (some p2)],.int .i64 n] [.gone,.gone,.ro (.arr s.cells.length 1 (zp_ s.cells)),.gone,.ro (.arr s.sends.length 3 (zo_ s.sends))] (.bool (s.rightB n)) [.gone]:=by
 refine zf_ (fn:=Tryz.f139) 5 30 0 rfl rfl rfl rfl rfl u14_ rfl fun w0 M E hro=>?_
 repeat' (first|refine Ctl.h ?_ |((with_reducible intro hif);first |(focus (cases hif;done)) |((try simp only[JH]at hif);try exact hy_)) |((with_reducible first|apply J22 cCp_ok za_|apply J23 fol cCp_ok za_|apply J24);(·rfl);(· exact k111_);(try kernel_rfl);try exact k15_)|fail)
 have e1:((s.cells.length:Int)≤1024)↔s.cells.length≤1024:=by omega
 apply At.endsRet za_ (fn:=Tryz.f139) (rs:=[.tmp 4]) Anc.refl hro (lb_ rfl) rfl
 ·exact yl_
 ·exact k6_
 ·exact k7_
 ·rfl
 ·exact xg_
 ·exact k9_
 ·intro β;simp[resS,SV.den,Sta.rightB,Bool.and_assoc,e1]
 ·exact xg_
def sCopied:yn_:=fun args h m=>match args with
 | [.agg [v1,.bool v2,.arr 8 1 v3,v4,v5,v6]]=>match xm_ h 1 (.tup []) v4,xm_ h 3 (.tup []) v6 with
  | some (c4,n4,f4,r4),some (c6,n6,f6,r6)=>bif isI .i64 v1 && isI .i64 v5 then some (c4∧c6∧(∀q,q < n4→isI .i64 (f4 q)=true)∧(∀q,q < n6→isSnd (f6 q)=true)∧(∀q,q < 8→isI .i64 (v3 q)=true)∧(n4≤1000000)∧(n6≤1000000),stS ⟨(iOf v1),v2,(fun q=>iOf (v3 q)),(ls iOf n4 f4),(iOf v5),(ls zw_ n6 f6)⟩ m (m+1),r4++r6,[(m,cB ⟨(iOf v1),v2,(fun q=>iOf (v3 q)),(ls iOf n4 f4),(iOf v5),(ls zw_ n6 f6)⟩),(m+1,sB ⟨(iOf v1),v2,(fun q=>iOf (v3 q)),(ls iOf n4 f4),(iOf v5),(ls zw_ n6 f6)⟩)])else none
  | _,_=>none
 | _=>none
theorem sCopied_ok:zi_ Tryz.prog 93 sCopied:=by
 refine⟨zg_ (by kernel_rfl),fun args h m c v rd wr hs hm hc w0 M β h' w R hrd hwr hst=>?_⟩
 unfold sCopied at hs
 split at hs
 ·rename_i v1 v2 v3 v4 v5 v6
  split at hs
  ·rename_i c4 n4 f4 r4 c6 n6 f6 r6 a4 a6
   obtain⟨hb,hs⟩:=zl_ hs
   simp only[Option.some.injEq,Prod.mk.injEq]at hs
   obtain⟨rfl,rfl,rfl,rfl⟩:=hs
   simp only[Bool.and_eq_true]at hb
   obtain⟨b1,b5⟩:=hb
   obtain⟨k4,k6,g4,g6,g3,y1,y2⟩:=hc
   obtain⟨A4,p4,d4,e4,t4⟩:=zh_ R a4 k4 (fun i hi=>hrd i (List.mem_append_left _ hi)) (by omega)
   obtain⟨A6,p6,d6,e6,t6⟩:=zh_ R a6 k6 (fun i hi=>hrd i (List.mem_append_right _ hi)) (by omega)
   refine yh_ (views:=[⟨1,(ls iOf n4 f4).length,zp_ (ls iOf n4 f4),A4,p4⟩,⟨3,(ls zw_ n6 f6).length,zo_ (ls zw_ n6 f6),A6,p6⟩]) (copied_lit ⟨(iOf v1),v2,(fun q=>iOf (v3 q)),(ls iOf n4 f4),(iOf v5),(ls zw_ n6 f6)⟩ p4 p6 (by rw[zb_];exact y1) (by rw[zb_];exact y2)) ?_ R hm hwr ?_ ?_ ?_
   ·exact d42_
   ·intro β1 hv
    simp only[Vd,zb_,and_true]at hv
    obtain⟨z4,z6⟩:=hv
    simp only[denL,yb_,ya_,z9_,zx_,zb_,z4,z6,d4,d6,zd_ b1,zd_ b5,←r8Den (β:=β) (β1:=β1) g3]
   ·exact xg_
   ·exact xg_
  ·cases hs
 ·cases hs
def sVRight:yn_:=fun args h m=>match args with
 | [.agg [v1,v2,v3,v4,v5]]=>bif isI .u64 v1 && isI .i64 v2 && isI .i64 v3 && isI .i64 v4 && isI .i64 v5 then some (True,.bool (Evi.rightB ⟨(iOf v1),(iOf v2),(iOf v3),(iOf v4),(iOf v5)⟩),[],[])else none
 | _=>none
theorem sVRight_ok:zi_ Tryz.prog 138 sVRight:=by
 refine⟨zg_ (by kernel_rfl),fun args h m c v rd wr hs hm hc w0 M β h' w R hrd hwr hst=>?_⟩
 unfold sVRight at hs
 split at hs
 ·rename_i v1 v2 v3 v4 v5
  obtain⟨hb,hs⟩:=zl_ hs
  simp only[Option.some.injEq,Prod.mk.injEq]at hs
  obtain⟨rfl,rfl,rfl,rfl⟩:=hs
  simp only[Bool.and_eq_true]at hb
  obtain⟨⟨⟨⟨b1,b2⟩,b3⟩,b4⟩,b5⟩:=hb
  refine yh_ (views:=[]) (vright_lit ⟨(iOf v1),(iOf v2),(iOf v3),(iOf v4),(iOf v5)⟩) ?_ R hm hwr ?_ ?_ ?_
  ·intro x hx;cases hx
  ·intro β1 hv
   simp only[denL,yb_,ya_,z9_,zx_,zb_,zd_ b1,zd_ b2,zd_ b3,zd_ b4,zd_ b5]
  ·exact xg_
  ·exact xg_
 ·cases hs
def sSRight:yn_:=fun args h m=>match args with
 | [.agg [v1,.bool v2,.arr 8 1 v3,v4,v5,v6],v7]=>match xm_ h 1 (.tup []) v4,xm_ h 3 (.tup []) v6 with
  | some (c4,n4,f4,r4),some (c6,n6,f6,r6)=>bif isI .i64 v1 && isI .i64 v5 && isI .i64 v7 then some (c4∧c6∧(∀q,q < n4→isI .i64 (f4 q)=true)∧(∀q,q < n6→isSnd (f6 q)=true)∧(∀q,q < 8→isI .i64 (v3 q)=true)∧(n4≤1000000),.bool (Sta.rightB ⟨(iOf v1),v2,(fun q=>iOf (v3 q)),(ls iOf n4 f4),(iOf v5),(ls zw_ n6 f6)⟩ (iOf v7)),r4++r6,[])else none
  | _,_=>none
 | _=>none
theorem sSRight_ok:zi_ Tryz.prog 139 sSRight:=by
 refine⟨zg_ (by kernel_rfl),fun args h m c v rd wr hs hm hc w0 M β h' w R hrd hwr hst=>?_⟩
 unfold sSRight at hs
 split at hs
 ·rename_i v1 v2 v3 v4 v5 v6 v7
  split at hs
  ·rename_i c4 n4 f4 r4 c6 n6 f6 r6 a4 a6
   obtain⟨hb,hs⟩:=zl_ hs
   simp only[Option.some.injEq,Prod.mk.injEq]at hs
   obtain⟨rfl,rfl,rfl,rfl⟩:=hs
   simp only[Bool.and_eq_true]at hb
   obtain⟨⟨b1,b5⟩,b7⟩:=hb
   obtain⟨k4,k6,g4,g6,g3,y1⟩:=hc
   obtain⟨A4,p4,d4,e4,t4⟩:=zh_ R a4 k4 (fun i hi=>hrd i (List.mem_append_left _ hi)) (by omega)
   obtain⟨A6,p6,d6,e6,t6⟩:=zh_ R a6 k6 (fun i hi=>hrd i (List.mem_append_right _ hi)) (by omega)
   refine yh_ (views:=[⟨1,(ls iOf n4 f4).length,zp_ (ls iOf n4 f4),A4,p4⟩,⟨3,(ls zw_ n6 f6).length,zo_ (ls zw_ n6 f6),A6,p6⟩]) (sright_lit ⟨(iOf v1),v2,(fun q=>iOf (v3 q)),(ls iOf n4 f4),(iOf v5),(ls zw_ n6 f6)⟩ (iOf v7) p4 p6 (by rw[zb_];exact y1)) ?_ R hm hwr ?_ ?_ ?_
   ·exact d42_
   ·intro β1 hv
    simp only[Vd,zb_,and_true]at hv
    obtain⟨z4,z6⟩:=hv
    simp only[denL,yb_,ya_,z9_,zx_,zb_,z4,z6,d4,d6,zd_ b1,zd_ b5,zd_ b7,←r8Den (β:=β) (β1:=β1) g3]
   ·exact xg_
   ·exact xg_
  ·cases hs
 ·cases hs
def prT (P:List Ins):HB:=.own 175 (.arr P.length 5 (prS P)) false
theorem getD_app_l {α : Type}{l m:List α}{q:Nat}{d:α}(h:q < l.length):(l++m).getD q d=l.getD q d:=by
 rw[List.getD_eq_getElem?_getD,List.getD_eq_getElem?_getD,List.getElem?_append_left h]
theorem less_catQ {t:Nat}{σ : Nat→Nat}{b:Bool}(S:List Ins)(x:Ins){n:Nat}{U:List Ins}(hn:S.length=n)(hU:S++[x]=U){m:Nat}(hm:m=U.length){g:Nat→SV}{xv z:SV}(hg:g=fun q=>SV.ite (decide (q < n)) (yu_ (S.getD q ⟨0,0,0,0,0⟩)) ([xv].getD (q - n) z))(hx:∀β,xv.cl β = x.cells) :
  Less (.own t (.arr m 5 g) b) ((HB.own t (.arr m 5 (prS U)) b).ren σ):=by
 subst hm
 have e:(HB.own t (.arr U.length 5 (prS U)) b).ren σ = .own t (.arr U.length 5 (prS U)) b:=by
  simp only[HB.ren,SV.ren];rw[prS_ren]
 rw[e]
 refine .val (fun β=>arrCl fun q hq=>?_) (fun n1 k1 f1 e=>by injection e with e1 e2 e3;subst e1 e2;exact⟨_,rfl⟩) (fun n1 k1 f1 e=>by injection e with e1 e2 e3;subst e1 e2;exact⟨_,rfl⟩)
 subst hg hU hn
 dsimp only
 rw[xk_]
 unfold prS
 by_cases h:q < S.length
 ·simp only[h,decide_true,cond_true]
  rw[getD_app_l h]
 ·have hq':q=S.length:=by rw[List.length_append]at hq;simp at hq;omega
  subst hq'
  simp only[h,decide_false,cond_false,Nat.sub_self,List.getD_cons_zero,hx]
  rw[List.getD_eq_getElem?_getD,List.getElem?_append_right (Nat.le_refl _),Nat.sub_self,isIns_cl (zn_ _),z2_];rfl
theorem prS_st (P:List Ins)(h:HM)(q:Nat):zc_ h (prS P q):=by simp[prS,yu_,zc_,ze_]
theorem take_sn {l:List Ins}{k:Nat}(hk:k < l.length):l.take k++[l.getD k ⟨0,0,0,0,0⟩]=l.take (k+1) :=  d3_
theorem th14_lit (P:List Ins)(p1:Nat)(hn:P.length≤1000000):zs_ Tryz.prog 37 [.sl 1 2 [] 5 0 P.length (some p1)] [.gone,.gone,.ro (.arr P.length 5 (prS P))] (.sl 3 3 [] 5 0 P.length none) [.gone,.gone,.gone,prT P]:=by
 refine zf_ (fn:=Tryz.f37) 3 18 0 rfl rfl rfl rfl rfl (by simp only[ze_,zc_,hp,zp_,prS,yu_,zo_,sndS,prT,HB.stable];simp[HB.born]) rfl fun w0 M E hro=>?_
 repeat' (first|refine Ctl.h ?_ |((with_reducible intro hif);first |(focus (cases hif;done)) |((try simp only[JH]at hif);try exact hy_)) |((with_reducible first|apply J22 zv_ za_|apply J23 fol zv_ za_|apply J24);(·rfl);(· exact k20_);(try kernel_rfl);try exact yr_)|fail)
 refine WF.nilFr (φ2:=[(3,.sl 3 3 [] 5 0 0 none),(6,.sl 1 2 [] 5 0 P.length (some p1)),(7,.nat .i64 P.length),(8,.nat .i64 0)]) 175 5 (prS []) (fun h q=>prS_st [] h q) rfl ?_ ?_ ?_
 ·refine⟨⟨_,rfl,fun β h0 hx=>(nilB_cl h0 (show β 3=(none,0) from hx) 5).symm⟩,⟨_,rfl,fun β _ _=>rfl⟩,⟨_,rfl,fun β _ _=>rfl⟩,⟨_,rfl,fun β _ _=>rfl⟩,trivial⟩
 ·simp[StableF,zc_,hp,HB.born]
 simp only[List.cons_append,List.nil_append]
 have hz:Less (.own 175 (.arr 0 5 (prS [])) false) (.own 175 (.arr 0 5 (prS (P.take 0))) false):=.same _
 refine WF.loopAt (fun (j:Nat)=>j≤P.length) (fun (j:Nat)=>[(3,.sl 3 3 [] 5 0 j none),(6,.sl 1 2 [] 5 0 P.length (some p1)),(7,.nat .i64 P.length),(8,.nat .i64 j)]) (fun (j:Nat)=>[.gone,.gone,.ro (.arr P.length 5 (prS P)),.own 175 (.arr j 5 (prS (P.take j))) false]) (fun (j:Nat)=>P.length - j) 0 (Nat.zero_le _) ?_ ?_ rfl ?_ ?_ rfl ?_
 ·exact we_
 ·exact k7_
 ·exact k108_
 ·exact k108_
 intro j hj
 by_cases hjl:j < P.length
 ·have hTl:(P.take j).length=j:=by rw[List.length_take];omega
  have hUl:j+1=(P.take (j+1)).length:=by rw[List.length_take];omega
  repeat' (first|refine Ctl.h ?_ |((with_reducible intro hif);first |(focus (cases hif;done)) |((try simp only[JH]at hif);try exact hy_)) |((with_reducible first|apply J22 zv_ za_|apply J23 fol zv_ za_|apply J24);(·rfl);(· (simp only[push_cast,↓JP,Nat.reduceAdd,Nat.reduceEqDiff,Nat.reduceLT,Nat.reduceMul,Nat.reduceLeDiff,reduceCtorEq,reduceIte,↓JK,hjl,inR,inN,List.all_cons,List.all_nil];rfl));(try kernel_rfl);try exact k15_)|fail)
  refine At.nextPick [0,1,2,6] (j+1) ?_ rfl rfl rfl ?_ rfl ?_ ?_ ?_ rfl
  ·omega
  ·(repeat' (first|exact trivial|exact .inl rfl|exact .inr (.same _)|exact .inr .loose|exact .inr (.arr (by assumption))|apply And.intro |(exact .inr (less_catQ (P.take j) (P.getD j ⟨0,0,0,0,0⟩) hTl (take_sn hjl) hUl rfl (fun β=>by rw[isIns_cl (zn_ _),z2_])))))
  ·exact k108_
  ·exact k32_
  ·exact k108_
 ·obtain rfl:j=P.length:=by omega
  repeat' (first|refine Ctl.h ?_ |((with_reducible intro hif);first |(focus (cases hif;done)) |((try simp only[JH]at hif);try exact hy_)) |((with_reducible first|apply J22 zv_ za_|apply J23 fol zv_ za_|apply J24);(·rfl);(· exact k112_);(try kernel_rfl);try exact yr_)|fail)
  apply At.endsPick [0,1,2,3] za_ (fn:=Tryz.f37) (rs:=[.tmp 2]) Anc.refl hro (lb_ rfl) rfl
  ·exact yl_
  ·exact xz_
  ·rfl
  ·rfl
  ·rfl
  ·exact k109_
  ·rfl
  ·exact k108_
  ·exact k9_
  ·exact fun β=>rfl
  ·exact k108_
def sTh14:yn_:=fun args h m=>match args with
 | [v1]=>match xm_ h 5 (.tup []) v1 with
  | some (c1,n1,f1,r1)=>some (c1∧(∀q,q < n1→isIns (f1 q)=true)∧(n1≤1000000),.sl m m [] 5 0 (ls zm_ n1 f1).length none,r1,[(m,prT (ls zm_ n1 f1))])
  | _=>none
 | _=>none
theorem sTh14_ok:zi_ Tryz.prog 37 sTh14:=by
 refine⟨zg_ (by kernel_rfl),fun args h m c v rd wr hs hm hc w0 M β h' w R hrd hwr hst=>?_⟩
 unfold sTh14 at hs
 split at hs
 ·rename_i v1
  split at hs
  ·rename_i c1 n1 f1 r1 a1
   simp only[Option.some.injEq,Prod.mk.injEq]at hs
   obtain⟨rfl,rfl,rfl,rfl⟩:=hs
   obtain⟨k1,g1,y1⟩:=hc
   obtain⟨A1,p1,d1,e1,t1⟩:=zh_ R a1 k1 (fun i hi=>hrd i hi) (by omega)
   refine yh_ (views:=[⟨5,(ls zm_ n1 f1).length,prS (ls zm_ n1 f1),A1,p1⟩]) (th14_lit (ls zm_ n1 f1) p1 (by rw[zb_];exact y1)) ?_ R hm hwr ?_ ?_ ?_
   ·intro x hx
    simp only[List.mem_cons,List.not_mem_nil,or_false]at hx
    subst hx
    ·exact x2_ t1 e1 g1
   ·exact d28_
   ·exact k108_
   ·exact k108_
  ·cases hs
 ·cases hs
theorem less_catR {t:Nat}{σ : Nat→Nat}{b:Bool}(S:List Snd)(x:Snd){n:Nat}{U:List Snd}(hn:S.length=n)(hU:S++[x]=U){m:Nat}(hm:m=U.length){g:Nat→SV}{xv z:SV}(hg:g=fun q=>SV.ite (decide (q < n)) (sndS (S.getD q ⟨0,0,0⟩)) ([xv].getD (q - n) z))(hx:∀β,xv.cl β =(sndS x).cl β) :
  Less (.own t (.arr m 3 g) b) ((HB.own t (.arr m 3 (zo_ U)) b).ren σ):=by
 subst hm
 have e:(HB.own t (.arr U.length 3 (zo_ U)) b).ren σ = .own t (.arr U.length 3 (zo_ U)) b:=by
  simp only[HB.ren,SV.ren];rw[sndsS_ren]
 rw[e]
 refine .val (fun β=>arrCl fun q hq=>?_) (fun n1 k1 f1 e=>by injection e with e1 e2 e3;subst e1 e2;exact⟨_,rfl⟩) (fun n1 k1 f1 e=>by injection e with e1 e2 e3;subst e1 e2;exact⟨_,rfl⟩)
 subst hg hU hn
 dsimp only
 rw[xk_]
 unfold zo_
 by_cases h:q < S.length
 ·simp only[h,decide_true,cond_true]
  rw[getD_app_l h]
 ·have hq':q=S.length:=by rw[List.length_append]at hq;simp at hq;omega
  subst hq'
  simp only[h,decide_false,cond_false,Nat.sub_self,List.getD_cons_zero,hx]
  rw[List.getD_eq_getElem?_getD,List.getElem?_append_right (Nat.le_refl _),Nat.sub_self];rfl
theorem take_snS {l:List Snd}{k:Nat}(hk:k < l.length):l.take k++[l.getD k ⟨0,0,0⟩]=l.take (k+1) :=  d3_
def cTh18:FuncId→Option yn_:=y9_ [(35,sCl64)]
theorem cTh18_ok:∀f S,cTh18 f=some S→zi_ Tryz.prog f S:=zr_ ⟨sCl64_ok,trivial⟩
theorem th18_lit (s:Sta)(p1 p2:Nat)(hc:s.cells.length≤1000000)(hs:s.sends.length≤1000000):zs_ Tryz.prog 42 [.agg [.int .i64 s.at_,.bool s.ended,.arr 8 1 (fun q=>.int .i64 (s.regs q)),.sl 1 2 [] 1 0 s.cells.length (some p1),.int .i64 s.draws,.sl 3 4 [] 3 0 s.sends.length (some p2)]] [.gone,.gone,.ro (.arr s.cells.length 1 (zp_ s.cells)),.gone,.ro (.arr s.sends.length 3 (zo_ s.sends))]
  (sr s (.sl 5 5 [] 1 0 s.cells.length none) (.sl 6 6 [] 3 0 s.sends.length none)) [.gone,.gone,.gone,.gone,.gone,cRf s.cells,sRf s.sends]:=by
 refine zf_ (fn:=Tryz.f42) 5 33 0 rfl rfl rfl rfl rfl (by simp only[ze_,zc_,hp,zp_,prS,yu_,zo_,sndS,prT,cRf,sRf,sr,HB.stable];simp[HB.born]) rfl fun w0 M E hro=>?_
 repeat' (first|refine Ctl.h ?_ |((with_reducible intro hif);first |(focus (cases hif;done)) |((try simp only[JH]at hif);try exact hy_)) |((with_reducible first|apply J22 cTh18_ok za_|apply J23 fol cTh18_ok za_|apply J24);(·rfl);(· (simp only[push_cast,↓JP,Nat.reduceAdd,Nat.reduceEqDiff,Nat.reduceLT,Nat.reduceMul,Nat.reduceLeDiff,reduceCtorEq,reduceIte,↓JK,JE,cTh18,sCl64,xu_,xj_,cRf,sRf,sr,inR,inN];rfl));(try kernel_rfl);(try (focus (first|exact True.intro |((try simp only[implies_true,forall_const,xu_,xj_,zb_,Nat.zero_add]);(repeat' (first|exact True.intro|assumption|omega|apply And.intro|rfl|intro _));done) |((try simp only[JS,implies_true,forall_const,yc_,z7_,x4_,inR,inN]);(repeat' (first|assumption|exact True.intro|omega|apply And.intro));done)))))|fail)
 refine WF.nilIn 177 3 (zo_ []) 8 105 (.agg [.int .i64 s.at_, .bool s.ended, .arr 8 1 (fun q => .int .i64 (s.regs q)), .sl 7 7 [] 1 0 s.cells.length none, .int .i64 s.draws, .sl 0 0 [] 0 0 0 (some 0)]) (.agg [.int .i64 s.at_, .bool s.ended, .arr 8 1 (fun q => .int .i64 (s.regs q)), .sl 7 7 [] 1 0 s.cells.length none, .int .i64 s.draws, .sl 9 9 [] 3 0 0 none]) true (fun _ q => xe_ q) rfl (fun β b0 hβ=>by
   have e:=nilB_cl b0 (show β 9=(none,0) from hβ) 3
   simp only[SV.cl,SV.den,denL]at e ⊢
   rw [e]) (fun h hb=>by
   have k7:=hb 7 (show (7:Nat)≤9 by decide)
   have k9:=hb 9 (show (9:Nat)≤9 by decide)
   simp[zc_,ze_,k7,k9]) rfl (fun n k f e=>by cases e) (fun n k f e=>by cases e) rfl ?_
 simp only[setH,List.cons_append,List.nil_append]
 have hz:Less (.own 177 (.arr 0 3 (zo_ [])) false) (.own 177 (.arr 0 3 (zo_ (s.sends.take 0))) false):=.same _
 refine WF.loopAt (fun (j:Nat)=>j≤s.sends.length) (fun (j:Nat)=>[(2,.ptr 6 []),(3,.ptr 8 []),(19,.sl 3 4 [] 3 0 s.sends.length (some p2)),(20,.nat .i64 s.sends.length),(21,.nat .i64 j)]) (fun (j:Nat)=>[.gone,.gone,.ro (.arr s.cells.length 1 (zp_ s.cells)),.gone,.ro (.arr s.sends.length 3 (zo_ s.sends)),.gone,.own 105 (.agg [.nat .i64 0,.bool false,.arr 8 1 (fun _=>.nat .i64 0),.sl 0 0 [] 0 0 0 (some 0),.nat .i64 0,.sl 0 0 [] 0 0 0 (some 0)]) true,cRf s.cells,.own 105 (.agg [.int .i64 s.at_,.bool s.ended,.arr 8 1 (fun q=>.int .i64 (s.regs q)),.sl 7 7 [] 1 0 s.cells.length none,.int .i64 s.draws,.sl 9 9 [] 3 0 j none]) true,.own 177 (.arr j 3 (zo_ (s.sends.take j))) false]) (fun (j:Nat)=>s.sends.length - j) 0 (Nat.zero_le _) ?_ ?_ rfl ?_ ?_ rfl ?_
 ·exact we_
 ·exact k7_
 ·exact k110_
 ·exact k110_
 intro j hj
 by_cases hjl:j < s.sends.length
 ·have hTl:(s.sends.take j).length=j:=by rw[List.length_take];omega
  have hUl:j+1=(s.sends.take (j+1)).length:=by rw[List.length_take];omega
  repeat' (first|refine Ctl.h ?_ |((with_reducible intro hif);first |(focus (cases hif;done)) |((try simp only[JH]at hif);try exact hy_)) |((with_reducible first|apply J22 cTh18_ok za_|apply J23 fol cTh18_ok za_|apply J24);(·rfl);(· (simp only[push_cast,↓JP,Nat.reduceAdd,Nat.reduceEqDiff,Nat.reduceLT,Nat.reduceMul,Nat.reduceLeDiff,reduceCtorEq,reduceIte,↓JK,hjl,inR,inN,sndS,List.all_cons,List.all_nil];rfl));(try kernel_rfl);try exact k15_)|fail)
  refine At.nextPick [0,1,2,3,4,5,6,7,8,12] (j+1) ?_ rfl rfl rfl ?_ rfl ?_ ?_ ?_ rfl
  ·omega
  ·(repeat' (first|exact trivial|exact .inl rfl|exact .inr (.same _)|exact .inr .loose|exact .inr (.arr (by assumption))|apply And.intro |(exact .inr (less_catR (s.sends.take j) (s.sends.getD j ⟨0,0,0⟩) hTl (take_snS hjl) hUl rfl (fun β=>rfl)))))
  ·exact k110_
  ·exact k32_
  ·exact k110_
 ·obtain rfl:j=s.sends.length:=by omega
  repeat' (first|refine Ctl.h ?_ |((with_reducible intro hif);first |(focus (cases hif;done)) |((try simp only[JH]at hif);try exact hy_)) |((with_reducible first|apply J22 cTh18_ok za_|apply J23 fol cTh18_ok za_|apply J24);(·rfl);(· exact k112_);(try kernel_rfl);try exact yr_)|fail)
  apply At.endsPick [0,1,2,3,4,7,9] za_ (fn:=Tryz.f42) (rs:=[.cell 2 105]) Anc.refl hro (lb_ rfl) rfl
  ·exact yl_
  ·exact xz_
  ·rfl
  ·rfl
  ·rfl
  ·exact k109_
  ·rfl
  ·exact k110_
  ·exact k9_
  ·exact fun β=>rfl
  ·exact k110_
end Go.Proofs.YtjliakjbdcplcaaGreat.Vm
end
end

import Derived.Test.YtjliakjbdcplcaaGreatQ1
import Derived.Test.YtjliakjbdcplcaaGreatQ23
set_option linter.unusedSimpArgs false
set_option linter.unusedVariables false
set_option maxRecDepth 100000
set_option maxHeartbeats 4000000
section
open Go.Proofs.YtjliakjbdcplcaaGreat.Vm Go.RowKit
attribute [local push_cast] prS zo_ zp_ xt_ y8_ y7_ y6_ y5_ y4_ xs_ y3_ y2_ y1_ zn_ z2_ z4_ z1_ zu_ zt_ iOf
section
namespace Go.Proofs.YtjliakjbdcplcaaGreat.Vm
open Go.RowKit
def eB (g i n:Nat):HB:=.own 184 (.agg [.ptr g [],.sl i i [] 5 0 n none]) true
def cBg:FuncId→Option yn_:=y9_ [(35,sCl64)]
theorem cBg_ok:∀f S,cBg f=some S→zi_ Tryz.prog f S:=zr_ ⟨sCl64_ok,trivial⟩
theorem begin_lit (t s q o y d:Int)(cs:List Int)(p:Nat)(hc:cs.length≤1000000):zs_ Tryz.prog 82 [.agg [.agg [.int .i64 t,.int .i64 s,.int .i64 q],.int .i64 o,.int .i64 y],.sl 1 2 [] 1 0 cs.length (some p),.int .i64 d] [.gone,.gone,.ro (.arr cs.length 1 (zp_ cs))]
  (.agg [.int .i64 0,.bool false,.arr 8 1 (fun j=>.int .i64 (begR y t s j)),.sl 3 3 [] 1 0 cs.length none,.int .i64 d,.sl 0 0 [] 0 0 0 (some 0)]) [.gone,.gone,.gone,.own 2 (.arr cs.length 1 (zp_ cs)) false]:=by
 refine zf_ (fn:=Tryz.f82) 3 20 0 rfl rfl rfl rfl rfl u17_ rfl fun w0 M E hro=>?_
 repeat' (first|refine Ctl.h ?_ |((with_reducible intro hif);first |(focus (cases hif;done)) |((try simp only[JH]at hif);try exact hy_)) |((with_reducible first|apply J22 cBg_ok za_|apply J23 fol cBg_ok za_|apply J24);(·rfl);(· (simp only[push_cast,↓JP,Nat.reduceAdd,Nat.reduceEqDiff,Nat.reduceLT,Nat.reduceMul,Nat.reduceLeDiff,reduceCtorEq,reduceIte,↓JK,JM,cBg,sCl64,JE,inR,inN];rfl));(try kernel_rfl);try exact k15_)|fail)
 apply At.endsPick [0,1,2,5] za_ (fn:=Tryz.f82) (rs:=[.cell 6 60]) Anc.refl hro (lb_ rfl) rfl
 ·exact yl_
 ·exact xz_
 ·rfl
 ·rfl
 ·rfl
 ·exact k40_
 ·rfl
 ·exact k123_
 ·exact k9_
 ·exact fun β=>rfl
 ·exact k123_
def sBegin:yn_:=fun args h m=>match args with
 | [.agg [.agg [v1,v2,v3],v4,v5],v6,v7]=>match xm_ h 1 (.tup []) v6 with
  | some (c6,n6,f6,r6)=>bif isI .i64 v1 && isI .i64 v2 && isI .i64 v3 && isI .i64 v4 && isI .i64 v5 && isI .i64 v7 then some (c6∧(∀q,q < n6→isI .i64 (f6 q)=true)∧(n6≤1000000),.agg [.int .i64 0,.bool false,.arr 8 1 (fun j=>.int .i64 (begR (iOf v5) (iOf v1) (iOf v2) j)),.sl m m [] 1 0 (ls iOf n6 f6).length none,.int .i64 (iOf v7),.sl 0 0 [] 0 0 0 (some 0)],r6,[(m,.own 2 (.arr (ls iOf n6 f6).length 1 (zp_ (ls iOf n6 f6))) false)])else none
  | _=>none
 | _=>none
theorem sBegin_ok:zi_ Tryz.prog 82 sBegin:=by
 refine⟨zg_ (by kernel_rfl),fun args h m c v rd wr hs hm hc w0 M β h' w R hrd hwr hst=>?_⟩
 unfold sBegin at hs
 split at hs
 ·rename_i v1 v2 v3 v4 v5 v6 v7
  split at hs
  ·rename_i c6 n6 f6 r6 a6
   obtain⟨hb,hs⟩:=zl_ hs
   simp only[Option.some.injEq,Prod.mk.injEq]at hs
   obtain⟨rfl,rfl,rfl,rfl⟩:=hs
   simp only[Bool.and_eq_true]at hb
   obtain⟨⟨⟨⟨⟨b1,b2⟩,b3⟩,b4⟩,b5⟩,b7⟩:=hb
   obtain⟨k6,g6,y1⟩:=hc
   obtain⟨A6,p6,d6,e6,t6⟩:=zh_ R a6 k6 (fun i hi=>hrd i hi) (by omega)
   refine yh_ (views:=[⟨1,(ls iOf n6 f6).length,zp_ (ls iOf n6 f6),A6,p6⟩]) (begin_lit (iOf v1) (iOf v2) (iOf v3) (iOf v4) (iOf v5) (iOf v7) (ls iOf n6 f6) p6 (by rw[zb_];exact y1)) ?_ R hm hwr ?_ ?_ ?_
   ·intro x hx
    simp only[List.mem_cons,List.not_mem_nil,or_false]at hx
    subst hx
    ·exact z5_ t6 e6 g6
   ·intro β1 hv
    simp only[Vd,zb_,and_true]at hv
    have z6:=hv
    simp only[denL,yb_,ya_,z9_,zx_,zb_,z6,d6,zd_ b1,zd_ b2,zd_ b3,zd_ b4,zd_ b5,zd_ b7]
   ·exact k123_
   ·exact k123_
  ·cases hs
 ·cases hs
def cOn:FuncId→Option yn_:=y9_ [(115,sOpenG),(34,sClI)]
theorem cOn_ok:∀f S,cOn f=some S→zi_ Tryz.prog f S:=zr_ ⟨sOpenG_ok,sClI_ok,trivial⟩
theorem Open_good (P:List Ins)(v:Evi)(s:Sta)(p1 p2 p3:Nat)(hP:∀x∈P,x.ok)(hn:P.length≤1000000)(hc:s.cells.length≤1000000)(hs:s.sends.length≤1000000)(hE:yt_ P v s=0):zs_ Tryz.prog 84 [.sl 1 2 [] 5 0 P.length (some p1),.agg [.int .u64 v.seed,.int .i64 v.process,.int .i64 v.ports,.int .i64 v.look,.int .i64 v.now],.agg [.int .i64 s.at_,.bool s.ended,.arr 8 1 (fun q=>.int .i64 (s.regs q)),.sl 3 4 [] 1 0 s.cells.length (some p2),.int .i64 s.draws,.sl 5 6 [] 3 0 s.sends.length (some p3)]]
  [.gone,.gone,.ro (.arr P.length 5 (prS P)),.gone,.ro (.arr s.cells.length 1 (zp_ s.cells)),.gone,.ro (.arr s.sends.length 3 (zo_ s.sends))]
  (.tup [.ptr 7 [],.int .i64 0]) [.gone,.gone,.gone,.gone,.gone,.gone,.gone,eB 8 11 P.length,mB s v Ins0 9 10,cB s,sB s,prO P]:=by
 have hn2:P.length≤281474976710656:=by omega
 refine zf_ (fn:=Tryz.f84) 7 25 0 rfl rfl rfl rfl rfl u17_ rfl fun w0 M E hro=>?_
 repeat' (first|refine Ctl.h ?_ |((with_reducible intro hif);first |(focus (cases hif;done)) |((try simp only[JH]at hif);try exact hy_)) |((with_reducible first|apply J22 cOn_ok za_|apply J23 fol cOn_ok za_|apply J24);(·rfl);(· (simp only[push_cast,↓JP,Nat.reduceAdd,Nat.reduceEqDiff,Nat.reduceLT,Nat.reduceMul,Nat.reduceLeDiff,reduceCtorEq,reduceIte,↓JK,cOn,sOpenG,sClI,JE,inR,inN,hE];rfl));(try kernel_rfl);try exact k126_)|fail)
 apply At.endsPick [0,1,2,3,4,5,6,13,9,10,11,12] za_ (fn:=Tryz.f84) (rs:=[.tmp 6,.tmp 7]) Anc.refl hro (lb_ rfl) rfl
 ·exact yl_
 ·exact xz_
 ·rfl
 ·rfl
 ·rfl
 ·exact k40_
 ·rfl
 ·exact k123_
 ·exact k9_
 ·exact fun β=>rfl
 ·exact k123_
def cOb:FuncId→Option yn_:=y9_ [(115,sOpenB),(34,sClI)]
theorem cOb_ok:∀f S,cOb f=some S→zi_ Tryz.prog f S:=zr_ ⟨sOpenB_ok,sClI_ok,trivial⟩
theorem Open_bad (P:List Ins)(v:Evi)(s:Sta)(p1 p2 p3:Nat)(hP:∀x∈P,x.ok)(hn:P.length≤1000000)(hc:s.cells.length≤1000000)(hs:s.sends.length≤1000000)(hE:yt_ P v s≠0):zs_ Tryz.prog 84 [.sl 1 2 [] 5 0 P.length (some p1),.agg [.int .u64 v.seed,.int .i64 v.process,.int .i64 v.ports,.int .i64 v.look,.int .i64 v.now],.agg [.int .i64 s.at_,.bool s.ended,.arr 8 1 (fun q=>.int .i64 (s.regs q)),.sl 3 4 [] 1 0 s.cells.length (some p2),.int .i64 s.draws,.sl 5 6 [] 3 0 s.sends.length (some p3)]]
  [.gone,.gone,.ro (.arr P.length 5 (prS P)),.gone,.ro (.arr s.cells.length 1 (zp_ s.cells)),.gone,.ro (.arr s.sends.length 3 (zo_ s.sends))]
  (.tup [.nilp,.int .i64 (yt_ P v s)]) [.gone]:=by
 have hn2:P.length≤281474976710656:=by omega
 refine zf_ (fn:=Tryz.f84) 7 25 0 rfl rfl rfl rfl rfl u17_ rfl fun w0 M E hro=>?_
 repeat' (first|refine Ctl.h ?_ |((with_reducible intro hif);first |(focus (cases hif;done)) |((try simp only[JH]at hif);try exact hy_)) |((with_reducible first|apply J22 cOb_ok za_|apply J23 fol cOb_ok za_|apply J24);(·rfl);(· (simp only[push_cast,↓JP,Nat.reduceAdd,Nat.reduceEqDiff,Nat.reduceLT,Nat.reduceMul,Nat.reduceLeDiff,reduceCtorEq,reduceIte,↓JK,cOb,sOpenB,sClI,JE,inR,inN,hE];rfl));(try kernel_rfl);try exact k126_)|fail)
 apply At.endsRet za_ (fn:=Tryz.f84) (rs:=[.tmp 6,.tmp 7]) Anc.refl hro (lb_ rfl) rfl
 ·exact yl_
 ·exact k6_
 ·exact k7_
 ·rfl
 ·exact k123_
 ·exact k9_
 ·exact fun β=>rfl
 ·exact k123_
def sOnG:yn_:=fun args h m=>match args with
 | [v1,.agg [v2,v3,v4,v5,v6],.agg [v7,.bool v8,.arr 8 1 v9,v10,v11,v12]]=>match xm_ h 5 (.tup []) v1,xm_ h 1 (.tup []) v10,xm_ h 3 (.tup []) v12 with
  | some (c1,n1,f1,r1),some (c10,n10,f10,r10),some (c12,n12,f12,r12)=>bif isI .u64 v2 && isI .i64 v3 && isI .i64 v4 && isI .i64 v5 && isI .i64 v6 && isI .i64 v7 && isI .i64 v11 then some (c1∧c10∧c12∧(∀q,q < n1→isIns (f1 q)=true)∧(∀q,q < n10→isI .i64 (f10 q)=true)∧(∀q,q < n12→isSnd (f12 q)=true)∧(∀q,q < 8→isI .i64 (v9 q)=true)∧((∀x∈(ls zm_ n1 f1),x.ok))∧(n1≤1000000)∧(n10≤1000000)∧(n12≤1000000)∧(yt_ (ls zm_ n1 f1) ⟨(iOf v2),(iOf v3),(iOf v4),(iOf v5),(iOf v6)⟩ ⟨(iOf v7),v8,(fun q=>iOf (v9 q)),(ls iOf n10 f10),(iOf v11),(ls zw_ n12 f12)⟩=0),.tup [.ptr m [],.int .i64 0],r1++r10++r12,[(m,eB (m+1) (m+4) (ls zm_ n1 f1).length),(m+1,mB ⟨(iOf v7),v8,(fun q=>iOf (v9 q)),(ls iOf n10 f10),(iOf v11),(ls zw_ n12 f12)⟩ ⟨(iOf v2),(iOf v3),(iOf v4),(iOf v5),(iOf v6)⟩ Ins0 (m+2) (m+3)),(m+2,cB ⟨(iOf v7),v8,(fun q=>iOf (v9 q)),(ls iOf n10 f10),(iOf v11),(ls zw_ n12 f12)⟩),(m+3,sB ⟨(iOf v7),v8,(fun q=>iOf (v9 q)),(ls iOf n10 f10),(iOf v11),(ls zw_ n12 f12)⟩),(m+4,prO (ls zm_ n1 f1))])else none
  | _,_,_=>none
 | _=>none
theorem sOnG_ok:zi_ Tryz.prog 84 sOnG:=by
 refine⟨zg_ (by kernel_rfl),fun args h m c v rd wr hs hm hc w0 M β h' w R hrd hwr hst=>?_⟩
 unfold sOnG at hs
 split at hs
 ·rename_i v1 v2 v3 v4 v5 v6 v7 v8 v9 v10 v11 v12
  split at hs
  ·rename_i c1 n1 f1 r1 c10 n10 f10 r10 c12 n12 f12 r12 a1 a10 a12
   obtain⟨hb,hs⟩:=zl_ hs
   simp only[Option.some.injEq,Prod.mk.injEq]at hs
   obtain⟨rfl,rfl,rfl,rfl⟩:=hs
   simp only[Bool.and_eq_true]at hb
   obtain⟨⟨⟨⟨⟨⟨b2,b3⟩,b4⟩,b5⟩,b6⟩,b7⟩,b11⟩:=hb
   obtain⟨k1,k10,k12,g1,g10,g12,g9,y1,y2,y3,y4,y5⟩:=hc
   obtain⟨A1,p1,d1,e1,t1⟩:=zh_ R a1 k1 (fun i hi=>hrd i (List.mem_append_left _ (List.mem_append_left _ hi))) (by omega)
   obtain⟨A10,p10,d10,e10,t10⟩:=zh_ R a10 k10 (fun i hi=>hrd i (List.mem_append_left _ (List.mem_append_right _ hi))) (by omega)
   obtain⟨A12,p12,d12,e12,t12⟩:=zh_ R a12 k12 (fun i hi=>hrd i (List.mem_append_right _ hi)) (by omega)
   refine yh_ (views:=[⟨5,(ls zm_ n1 f1).length,prS (ls zm_ n1 f1),A1,p1⟩,⟨1,(ls iOf n10 f10).length,zp_ (ls iOf n10 f10),A10,p10⟩,⟨3,(ls zw_ n12 f12).length,zo_ (ls zw_ n12 f12),A12,p12⟩]) (Open_good (ls zm_ n1 f1) ⟨(iOf v2),(iOf v3),(iOf v4),(iOf v5),(iOf v6)⟩ ⟨(iOf v7),v8,(fun q=>iOf (v9 q)),(ls iOf n10 f10),(iOf v11),(ls zw_ n12 f12)⟩ p1 p10 p12 y1 (by rw[zb_];exact y2) (by rw[zb_];exact y3) (by rw[zb_];exact y4) y5) ?_ R hm hwr ?_ ?_ ?_
   ·exact d41_
   ·exact d45_
   ·exact k123_
   ·exact k123_
  ·cases hs
 ·cases hs
def sOnB:yn_:=fun args h m=>match args with
 | [v1,.agg [v2,v3,v4,v5,v6],.agg [v7,.bool v8,.arr 8 1 v9,v10,v11,v12]]=>match xm_ h 5 (.tup []) v1,xm_ h 1 (.tup []) v10,xm_ h 3 (.tup []) v12 with
  | some (c1,n1,f1,r1),some (c10,n10,f10,r10),some (c12,n12,f12,r12)=>bif isI .u64 v2 && isI .i64 v3 && isI .i64 v4 && isI .i64 v5 && isI .i64 v6 && isI .i64 v7 && isI .i64 v11 then some (c1∧c10∧c12∧(∀q,q < n1→isIns (f1 q)=true)∧(∀q,q < n10→isI .i64 (f10 q)=true)∧(∀q,q < n12→isSnd (f12 q)=true)∧(∀q,q < 8→isI .i64 (v9 q)=true)∧((∀x∈(ls zm_ n1 f1),x.ok))∧(n1≤1000000)∧(n10≤1000000)∧(n12≤1000000)∧(yt_ (ls zm_ n1 f1) ⟨(iOf v2),(iOf v3),(iOf v4),(iOf v5),(iOf v6)⟩ ⟨(iOf v7),v8,(fun q=>iOf (v9 q)),(ls iOf n10 f10),(iOf v11),(ls zw_ n12 f12)⟩≠0),.tup [.nilp,.int .i64 (yt_ (ls zm_ n1 f1) ⟨(iOf v2),(iOf v3),(iOf v4),(iOf v5),(iOf v6)⟩ ⟨(iOf v7),v8,(fun q=>iOf (v9 q)),(ls iOf n10 f10),(iOf v11),(ls zw_ n12 f12)⟩)],r1++r10++r12,[])else none
  | _,_,_=>none
 | _=>none
theorem sOnB_ok:zi_ Tryz.prog 84 sOnB:=by
 refine⟨zg_ (by kernel_rfl),fun args h m c v rd wr hs hm hc w0 M β h' w R hrd hwr hst=>?_⟩
 unfold sOnB at hs
 split at hs
 ·rename_i v1 v2 v3 v4 v5 v6 v7 v8 v9 v10 v11 v12
  split at hs
  ·rename_i c1 n1 f1 r1 c10 n10 f10 r10 c12 n12 f12 r12 a1 a10 a12
   obtain⟨hb,hs⟩:=zl_ hs
   simp only[Option.some.injEq,Prod.mk.injEq]at hs
   obtain⟨rfl,rfl,rfl,rfl⟩:=hs
   simp only[Bool.and_eq_true]at hb
   obtain⟨⟨⟨⟨⟨⟨b2,b3⟩,b4⟩,b5⟩,b6⟩,b7⟩,b11⟩:=hb
   obtain⟨k1,k10,k12,g1,g10,g12,g9,y1,y2,y3,y4,y5⟩:=hc
   obtain⟨A1,p1,d1,e1,t1⟩:=zh_ R a1 k1 (fun i hi=>hrd i (List.mem_append_left _ (List.mem_append_left _ hi))) (by omega)
   obtain⟨A10,p10,d10,e10,t10⟩:=zh_ R a10 k10 (fun i hi=>hrd i (List.mem_append_left _ (List.mem_append_right _ hi))) (by omega)
   obtain⟨A12,p12,d12,e12,t12⟩:=zh_ R a12 k12 (fun i hi=>hrd i (List.mem_append_right _ hi)) (by omega)
   refine yh_ (views:=[⟨5,(ls zm_ n1 f1).length,prS (ls zm_ n1 f1),A1,p1⟩,⟨1,(ls iOf n10 f10).length,zp_ (ls iOf n10 f10),A10,p10⟩,⟨3,(ls zw_ n12 f12).length,zo_ (ls zw_ n12 f12),A12,p12⟩]) (Open_bad (ls zm_ n1 f1) ⟨(iOf v2),(iOf v3),(iOf v4),(iOf v5),(iOf v6)⟩ ⟨(iOf v7),v8,(fun q=>iOf (v9 q)),(ls iOf n10 f10),(iOf v11),(ls zw_ n12 f12)⟩ p1 p10 p12 y1 (by rw[zb_];exact y2) (by rw[zb_];exact y3) (by rw[zb_];exact y4) y5) ?_ R hm hwr ?_ ?_ ?_
   ·exact d41_
   ·exact d45_
   ·exact k123_
   ·exact k123_
  ·cases hs
 ·cases hs
end Go.Proofs.YtjliakjbdcplcaaGreat.Vm
end
section
namespace Go.Proofs.YtjliakjbdcplcaaGreat.Vm
open Go.RowKit
def eS (g i n:Nat):SV:=.agg [.ptr g [],.sl i i [] 5 0 n none]
section
variable {ρ : Nat→Nat} {h h':HM} {g c k e i n:Nat} {s:Sta} {v:Evi} {x:Ins} {P:List Ins} {ok:Prop}
theorem bun_celR (hp:macP h g=some (s,v,x,c,k,ok))(hok:ok)(ec:h' c=h c):Bun1 ρ (h' c) (.ro (.arr s.cells.length 1 (zp_ s.cells))):=by
 obtain⟨l,cf,sf,hg,hgl,hc,hcl,_⟩:=mac_val hp hok
 exact Fit.ro (u:=.arr s.cells.length 1 cf) (by rw[ec,hc];rfl) (fun β=>arrCl (hcl β)) (fun n k f e=>by injection e with e1 e2 e3;subst e1 e2;exact⟨_,rfl⟩)
theorem bun_sndR (hp:macP h g=some (s,v,x,c,k,ok))(hok:ok)(ek:h' k=h k):Bun1 ρ (h' k) (.ro (.arr s.sends.length 3 (zo_ s.sends))):=by
 obtain⟨l,cf,sf,hg,hgl,hc,hcl,hk,hkl,_⟩:=mac_val hp hok
 exact Fit.ro (u:=.arr s.sends.length 3 sf) (by rw[ek,hk];rfl) (fun β=>by simp only[SV.ren,sndsS_ren];exact arrCl (hkl β)) (fun n k f e=>by simp only[SV.ren]at e;injection e with e1 e2 e3;subst e1 e2;exact⟨_,rfl⟩)
def engP (h:HM)(e:Nat):Option (Sta×Evi×Ins×List Ins×(Nat×Nat×Nat×Nat)×Prop):=match h e with
 | .own t (.agg [.ptr g [],.sl z i [] 5 0 n none]) true=>match macP h g,prP h i with
  | some (s,v,x,c,k,ok),some (n',P,ok2)=>bif Nat.beq t 184 && (Nat.beq z i && Nat.beq n n') && z3_ [0,e,g,c,k,i] then some (s,v,x,P,(g,c,k,i),ok∧ok2)else none
  | _,_=>none
 | _=>none
theorem engP_val {q:Nat×Nat×Nat×Nat}(hp:engP h e=some (s,v,x,P,q,ok)):∃ok1 ok2,ok=(ok1∧ok2)∧macP h q.1=some (s,v,x,q.2.1,q.2.2.1,ok1)∧prP h q.2.2.2=some (P.length,P,ok2)∧h e=.own 184 (eS q.1 q.2.2.2 P.length) true∧z3_ [0,e,q.1,q.2.1,q.2.2.1,q.2.2.2]=true:=by
 unfold engP at hp
 split at hp
 ·rename_i t g z i n he
  split at hp
  ·rename_i s v x c k ok1 n' P ok2 hmp hpp
   obtain⟨hb,hs⟩:=zl_ hp
   simp only[Option.some.injEq,Prod.mk.injEq]at hs
   obtain⟨rfl,rfl,rfl,rfl,rfl,rfl⟩:=hs
   simp only[Bool.and_eq_true]at hb
   obtain⟨⟨b1,b2,b3⟩,b4⟩:=hb
   have b1:=Nat.eq_of_beq_eq_true b1
   have b2:=Nat.eq_of_beq_eq_true b2
   have b3:=Nat.eq_of_beq_eq_true b3
   subst b1 b2 b3
   have hl:=prP_len hpp
   subst hl
   exact⟨ok1,ok2,rfl,hmp,hpp,he,b4⟩
  ·cases hp
 ·cases hp
theorem bun_eng {t g i n a b:Nat}{ex:Bool}(he:h e=.own t (eS g i n) ex)(ee:h' e=h e)(ha:ρ a=g)(hb:ρ b=i):Bun1 ρ (h' e) (.ro (eS a b n)):=by
 exact Fit.ro (u:=eS g i n) (by rw[ee,he];rfl) (fun β=>by simp only[eS,SV.ren,renL,ha,hb]) (fun n k f e=>by cases e)
end
def eN:yn_:=fun args h m=>match args with
 | [.ptr e []]=>match h e with
  | .own t (.agg [.ptr g [],.sl z i [] 5 0 n none]) true=>bif (h g).born && (h i).born && Nat.beq z i then some (True,.bool false,[e,g,i],[])else none
  | _=>none
 | _=>none
theorem none_lit (n:Nat):zs_ Tryz.prog 92 [.ptr 1 []] [.gone,.ro (eS 2 3 n),.gone,.gone] (.bool false) [.gone,.gone,.gone,.gone]:=by
 refine zf_ (fn:=Tryz.f92) 4 12 0 rfl rfl rfl rfl rfl u18_ rfl fun w0 M E hro=>?_
 repeat' (first|refine Ctl.h ?_ |((with_reducible intro hif);first |(focus (cases hif;done)) |((try simp only[JH]at hif);try exact hy_)) |((with_reducible first|apply J22 zv_ za_|apply J23 fol zv_ za_|apply J24);(·rfl);(· (simp only[push_cast,↓JP,Nat.reduceAdd,Nat.reduceEqDiff,Nat.reduceLT,Nat.reduceMul,Nat.reduceLeDiff,reduceCtorEq,reduceIte,↓JK,eS,inR,inN];rfl));(try kernel_rfl);try exact k15_)|fail)
 apply At.endsPick [0,1,2,3] za_ (fn:=Tryz.f92) (rs:=[.tmp 2]) Anc.refl hro (lb_ rfl) rfl
 ·exact yl_
 ·exact xz_
 ·rfl
 ·rfl
 ·rfl
 ·exact k40_
 ·rfl
 ·exact k124_
 ·exact k9_
 ·exact fun β=>rfl
 ·exact k124_
theorem eN_ok:zi_ Tryz.prog 92 eN:=by
 refine⟨zg_ (by kernel_rfl),fun args h m c v rd wr hs hm hc w0 M β h' w R hrd hwr hst=>?_⟩
 unfold eN at hs
 split at hs
 ·rename_i e
  split at hs
  ·rename_i t g z i n he
   obtain⟨hb,hs⟩:=zl_ hs
   simp only[Option.some.injEq,Prod.mk.injEq]at hs
   obtain⟨rfl,rfl,rfl,rfl⟩:=hs
   simp only[Bool.and_eq_true]at hb
   obtain⟨⟨b1,b2⟩,b3⟩:=hb
   have b3:=Nat.eq_of_beq_eq_true b3
   subst b3
   have C:=callG (h:=h) (m:=m) [0,e,g,z] (none_lit n) R rfl (by simp) rfl rfl rfl
    ⟨.gone (by rw[R.nil0];rfl),bun_eng (t:=t) (ex:=true) he (hrd e (by simp)) rfl rfl,.gone (by rw[hrd g (by simp)];exact b1),.gone (by rw[hrd z (by simp)];exact b2),trivial⟩ hm (fun p hp=>by cases hp) (by simp)
    (by simp[xo_,HB.stable,eS,zc_,ze_,hp,HB.born]) ⟨rfl,trivial⟩ trivial trivial
   exact C
  ·cases hs
 ·cases hs
def cEn:FuncId→Option yn_:=y9_ [(92,eN),(122,pS),(93,sCopied)]
theorem cEn_ok:∀f S,cEn f=some S→zi_ Tryz.prog f S:=zr_ ⟨eN_ok,pS_ok,sCopied_ok,trivial⟩
theorem ended_lit (n:Nat)(s:Sta)(v:Evi)(x:Ins):zs_ Tryz.prog 89 [.ptr 1 []] [.gone,.own 184 (eS 2 5 n) true,.ro (macS s v x 3 4),.gone,.gone,.gone] (.bool s.ended) [.gone,.own 184 (eS 2 5 n) true,.gone,.gone,.gone,.gone]:=by
 refine zf_ (fn:=Tryz.f89) 6 16 0 rfl rfl rfl rfl rfl u18_ rfl fun w0 M E hro=>?_
 repeat' (first|refine Ctl.h ?_ |((with_reducible intro hif);first |(focus (cases hif;done)) |((try simp only[JH]at hif);try exact hy_)) |((with_reducible first|apply J22 cEn_ok za_|apply J23 fol cEn_ok za_|apply J24);(·rfl);(· exact k127_);(try kernel_rfl);try exact k15_)|fail)
 apply At.endsPick [0,1,2,3,4,5] za_ (fn:=Tryz.f89) (rs:=[.tmp 2]) Anc.refl hro (lb_ rfl) rfl
 ·exact yl_
 ·exact xz_
 ·rfl
 ·rfl
 ·rfl
 ·exact k40_
 ·rfl
 ·exact k124_
 ·exact k9_
 ·exact fun β=>rfl
 ·exact k124_
theorem at_lit (n:Nat)(s:Sta)(v:Evi)(x:Ins):zs_ Tryz.prog 90 [.ptr 1 []] [.gone,.own 184 (eS 2 5 n) true,.ro (macS s v x 3 4),.gone,.gone,.gone] (.int .i64 s.at_) [.gone,.own 184 (eS 2 5 n) true,.gone,.gone,.gone,.gone]:=by
 refine zf_ (fn:=Tryz.f90) 6 13 0 rfl rfl rfl rfl rfl u18_ rfl fun w0 M E hro=>?_
 repeat' (first|refine Ctl.h ?_ |((with_reducible intro hif);first |(focus (cases hif;done)) |((try simp only[JH]at hif);try exact hy_)) |((with_reducible first|apply J22 cEn_ok za_|apply J23 fol cEn_ok za_|apply J24);(·rfl);(· exact k127_);(try kernel_rfl);try exact k15_)|fail)
 apply At.endsPick [0,1,2,3,4,5] za_ (fn:=Tryz.f90) (rs:=[.tmp 2]) Anc.refl hro (lb_ rfl) rfl
 ·exact yl_
 ·exact xz_
 ·rfl
 ·rfl
 ·rfl
 ·exact k40_
 ·rfl
 ·exact k124_
 ·exact k9_
 ·exact fun β=>rfl
 ·exact k124_
theorem state_lit (n:Nat)(s:Sta)(v:Evi)(x:Ins)(hc:s.cells.length≤1000000)(hs:s.sends.length≤1000000):zs_ Tryz.prog 50 [.ptr 1 []] [.gone,.own 184 (eS 2 5 n) true,.ro (macS s v x 3 4),.ro (.arr s.cells.length 1 (zp_ s.cells)),.ro (.arr s.sends.length 3 (zo_ s.sends)),.gone] (stS s 6 7) [.gone,.own 184 (eS 2 5 n) true,.gone,.gone,.gone,.gone,cB s,sB s]:=by
 refine zf_ (fn:=Tryz.f50) 6 14 0 rfl rfl rfl rfl rfl u18_ rfl fun w0 M E hro=>?_
 repeat' (first|refine Ctl.h ?_ |((with_reducible intro hif);first |(focus (cases hif;done)) |((try simp only[JH]at hif);try exact hy_)) |((with_reducible first|apply J22 cEn_ok za_|apply J23 fol cEn_ok za_|apply J24);(·rfl);(· (simp only[push_cast,↓JP,Nat.reduceAdd,Nat.reduceEqDiff,Nat.reduceLT,Nat.reduceMul,Nat.reduceLeDiff,reduceCtorEq,reduceIte,↓JK,JM,JE,eS,cEn,eN,sCopied,inR,inN];rfl));(try kernel_rfl);try exact k15_)|fail)
 apply At.endsPick [0,1,2,3,4,5,7,8] za_ (fn:=Tryz.f50) (rs:=[.cell 2 60]) Anc.refl hro (lb_ rfl) rfl
 ·exact yl_
 ·exact xz_
 ·rfl
 ·rfl
 ·rfl
 ·exact k40_
 ·rfl
 ·exact k124_
 ·exact k9_
 ·exact fun β=>rfl
 ·exact k124_
theorem Step_lit (P:List Ins)(s:Sta)(v:Evi)(x:Ins)(hP:PG P)(V:VOk v)(hS:SG P s):zs_ Tryz.prog 91 [.ptr 1 []] [.gone,.own 184 (eS 2 5 P.length) true,mB s v x 3 4,cB s,sB s,prO P] (.int .i64 (x3_ P v s))
  [.gone,.own 184 (eS 2 5 P.length) true,mB (xx_ P v s) v (stepX P s x) 3 6,cB (xx_ P v s),.gone,prO P,sB (xx_ P v s)]:=by
 refine zf_ (fn:=Tryz.f91) 6 14 0 rfl rfl rfl rfl rfl (by simp only[ze_,zc_,hp,zp_,prS,yu_,zo_,sndS,stS,evS,macS,mB,cB,sB,eS,prO,prR,HB.stable];simp[HB.born,mB,cB,sB,prO]) rfl fun w0 M E hro=>?_
 repeat' (first|refine Ctl.h ?_ |((with_reducible intro hif);first |(focus (cases hif;done)) |((try simp only[JH]at hif);try exact hy_)) |((with_reducible first|apply J22 cEn_ok za_|apply J23 fol cEn_ok za_|apply J24);(·rfl);(· (simp only[push_cast,↓JP,Nat.reduceAdd,Nat.reduceEqDiff,Nat.reduceLT,Nat.reduceMul,Nat.reduceLeDiff,reduceCtorEq,reduceIte,↓JK,JM,JE,eS,prO,prP,macP,z3_,memN,cEn,eN,pS,inR,inN];rfl));(try kernel_rfl);try exact k15_)|fail)
 apply At.endsPick [0,1,2,3,4,5,6] za_ (fn:=Tryz.f91) (rs:=[.tmp 2]) Anc.refl hro (lb_ rfl) rfl
 ·exact yl_
 ·exact xz_
 ·rfl
 ·rfl
 ·rfl
 ·exact k40_
 ·rfl
 ·exact k124_
 ·exact k9_
 ·exact fun β=>rfl
 ·exact k124_
end Go.Proofs.YtjliakjbdcplcaaGreat.Vm
end
section
namespace Go.Proofs.YtjliakjbdcplcaaGreat.Vm
open Go.RowKit
theorem eB_ren (ρ : Nat→Nat)(g i n:Nat):(eB g i n).ren ρ = eB (ρ g) (ρ i) n:=rfl
theorem prO_ren (ρ : Nat→Nat)(P:List Ins):(prO P).ren ρ = prO P:=by
 simp only[prO,HB.ren,SV.ren,prS_ren]
theorem prO_st {h:HM}{P:List Ins}:(prO P).stable h:=fun q=>prS_stable q
theorem eB_st {h:HM}{g i n:Nat}(hg:(h g).born=true)(hi:(h i).born=true):(eB g i n).stable h:=by
 simp[eB,HB.stable,zc_,ze_,hg,hi]
theorem bun_engO {ρ : Nat→Nat}{h h':HM}{e g i n a b:Nat}(he:h e=.own 184 (eS g i n) true)(ee:h' e=h e)(ha:ρ a=g)(hb:ρ b=i):Bun1 ρ (h' e) (eB a b n):=by
 show Less (h' e) (.own 184 ((eS a b n).ren ρ) true)
 rw[ee,he]
 simp only[eS,SV.ren,renL,ha,hb]
 exact .same _
theorem bun_prO {ρ : Nat→Nat}{h h':HM}{i n:Nat}{P:List Ins}{ok:Prop}(hp:prP h i=some (n,P,ok))(hok:ok)(ei:h' i=h i):Bun1 ρ (h' i) (prO P):=by
 unfold prP at hp
 split at hp
 ·rename_i t n f hi
  obtain⟨hb,hs⟩:=zl_ hp
  simp only[Option.some.injEq,Prod.mk.injEq]at hs
  obtain⟨rfl,rfl,rfl⟩:=hs
  have:=Nat.eq_of_beq_eq_true hb
  subst this
  show Less (h' i) (.own 38 (.arr (ls zm_ n f).length 5 fun q=>(prS (ls zm_ n f) q).ren ρ) false)
  rw[ei,hi,prS_ren,zb_]
  refine .val (fun β=>arrCl fun q hq=>?_) (fun n k f e=>by injection e with e1 e2 e3;subst e1 e2;exact⟨_,rfl⟩) (fun n k f e=>by injection e with e1 e2 e3;subst e1 e2;exact⟨_,rfl⟩)
  unfold prS
  rw[isIns_cl (hok q hq),ls_getD hq,isIns_cl (zn_ _),z2_]
 ·cases hp
theorem macS_st {h:HM}{s:Sta}{v:Evi}{x:Ins}{c k:Nat}(hc:(h c).born=true)(hk:(h k).born=true):(HB.ro (macS s v x c k)).stable h:=by
 simp[HB.stable,macS,stS,evS,yu_,zc_,ze_,hc,hk]
theorem celR_st {h:HM}{l:List Int}:(HB.ro (.arr l.length 1 (zp_ l))).stable h:=fun q=>yy_ q
theorem sndR_st {h:HM}{l:List Snd}:(HB.ro (.arr l.length 3 (zo_ l))).stable h:=fun q=>xe_ q
def eEnded:yn_:=fun args h m=>match args with
 | [.ptr e []]=>match engP h e with
  | some (s,v,x,P,(g,c,k,i),ok)=>some (ok∧True,.bool s.ended,[e,g,c,k,i],[(e,eB g i P.length)])
  | none=>none
 | _=>none
theorem eEnded_ok:zi_ Tryz.prog 89 eEnded:=by
 refine⟨zg_ (by kernel_rfl),fun args h m c v rd wr hs hm hc w0 M β h' w R hrd hwr hst=>?_⟩
 unfold eEnded at hs
 split at hs
 ·rename_i e
  split at hs
  ·rename_i s v x P g c k i ok hep
   simp only[Option.some.injEq,Prod.mk.injEq]at hs
   obtain⟨rfl,rfl,rfl,rfl⟩:=hs
   obtain⟨ok1,ok2,rfl,hmp,hpp,he,hnd⟩:=engP_val hep
   obtain⟨⟨hok,hok2⟩,_⟩:=hc
   have ee:=hrd e (by simp)
   have eg:=hrd g (by simp)
   have ec:=hrd c (by simp)
   have ek:=hrd k (by simp)
   have ei:=hrd i (by simp)
   exact bun_ok (h:=h) (m:=m) [0,e,g,c,k,i] (ended_lit P.length s v x) R rfl (by simp) rfl rfl hnd
    ⟨Fit.gone (by rw[R.nil0];rfl),bun_engO he ee rfl rfl,bun_macR hmp hok eg rfl rfl,bun_cel0 hmp hok ec,bun_snd0 hmp hok ek,bun_pr0 hpp ei,trivial⟩ hm
    (fun p hp=>by cases hp) (by simp) rfl
    ⟨trivial,eB_st rfl rfl,macS_st rfl rfl,trivial,trivial,trivial,trivial⟩ ⟨rfl,trivial⟩
    ⟨trivial,eB_st rfl rfl,macS_st rfl rfl,trivial,trivial,trivial,trivial⟩ (trivial) rfl rfl (by rfl)
  ·cases hs
 ·cases hs
def eAt:yn_:=fun args h m=>match args with
 | [.ptr e []]=>match engP h e with
  | some (s,v,x,P,(g,c,k,i),ok)=>some (ok∧True,.int .i64 s.at_,[e,g,c,k,i],[(e,eB g i P.length)])
  | none=>none
 | _=>none
theorem eAt_ok:zi_ Tryz.prog 90 eAt:=by
 refine⟨zg_ (by kernel_rfl),fun args h m c v rd wr hs hm hc w0 M β h' w R hrd hwr hst=>?_⟩
 unfold eAt at hs
 split at hs
 ·rename_i e
  split at hs
  ·rename_i s v x P g c k i ok hep
   simp only[Option.some.injEq,Prod.mk.injEq]at hs
   obtain⟨rfl,rfl,rfl,rfl⟩:=hs
   obtain⟨ok1,ok2,rfl,hmp,hpp,he,hnd⟩:=engP_val hep
   obtain⟨⟨hok,hok2⟩,_⟩:=hc
   have ee:=hrd e (by simp)
   have eg:=hrd g (by simp)
   have ec:=hrd c (by simp)
   have ek:=hrd k (by simp)
   have ei:=hrd i (by simp)
   exact bun_ok (h:=h) (m:=m) [0,e,g,c,k,i] (at_lit P.length s v x) R rfl (by simp) rfl rfl hnd
    ⟨Fit.gone (by rw[R.nil0];rfl),bun_engO he ee rfl rfl,bun_macR hmp hok eg rfl rfl,bun_cel0 hmp hok ec,bun_snd0 hmp hok ek,bun_pr0 hpp ei,trivial⟩ hm
    (fun p hp=>by cases hp) (by simp) rfl
    ⟨trivial,eB_st rfl rfl,macS_st rfl rfl,trivial,trivial,trivial,trivial⟩ ⟨rfl,trivial⟩
    ⟨trivial,eB_st rfl rfl,macS_st rfl rfl,trivial,trivial,trivial,trivial⟩ (trivial) rfl rfl (by rfl)
  ·cases hs
 ·cases hs
def wb_:yn_:=fun args h m=>match args with
 | [.ptr e []]=>match engP h e with
  | some (s,v,x,P,(g,c,k,i),ok)=>some (ok∧s.cells.length≤1000000∧s.sends.length≤1000000,stS s m (m+1),[e,g,c,k,i],[(e,eB g i P.length),(m,cB s),(m+1,sB s)])
  | none=>none
 | _=>none
theorem eState_ok:zi_ Tryz.prog 50 wb_:=by
 refine⟨zg_ (by kernel_rfl),fun args h m c v rd wr hs hm hc w0 M β h' w R hrd hwr hst=>?_⟩
 unfold wb_ at hs
 split at hs
 ·rename_i e
  split at hs
  ·rename_i s v x P g c k i ok hep
   simp only[Option.some.injEq,Prod.mk.injEq]at hs
   obtain⟨rfl,rfl,rfl,rfl⟩:=hs
   obtain⟨ok1,ok2,rfl,hmp,hpp,he,hnd⟩:=engP_val hep
   obtain⟨⟨hok,hok2⟩,hc1,hs1⟩:=hc
   have ee:=hrd e (by simp)
   have eg:=hrd g (by simp)
   have ec:=hrd c (by simp)
   have ek:=hrd k (by simp)
   have ei:=hrd i (by simp)
   exact bun_ok (h:=h) (m:=m) [0,e,g,c,k,i] (state_lit P.length s v x hc1 hs1) R rfl (by simp) rfl rfl hnd
    ⟨Fit.gone (by rw[R.nil0];rfl),bun_engO he ee rfl rfl,bun_macR hmp hok eg rfl rfl,bun_celR hmp hok ec,bun_sndR hmp hok ek,bun_pr0 hpp ei,trivial⟩ hm
    (fun p hp=>by
     simp only[newB,List.drop,List.length_cons,List.length_nil,List.mem_cons,List.not_mem_nil,or_false]at hp
     rcases hp with rfl|rfl
     ·exact hwr (m,cB s) (by simp)
     ·exact hwr (m+1,sB s) (by simp)) (by simp) rfl
    ⟨trivial,eB_st rfl rfl,macS_st rfl rfl,celR_st,sndR_st,trivial,trivial⟩ ⟨rfl,trivial⟩
    ⟨trivial,eB_st rfl rfl,macS_st rfl rfl,celR_st,sndR_st,trivial,cB_st,sB_st,trivial⟩ (by simp[stS,zc_,ze_];exact⟨rfl,rfl⟩) rfl rfl (by show [(e,(eB 2 5 _).ren _),(m,(cB s).ren _),(m+1,(sB s).ren _)]=_;rw[eB_ren,cB_ren,sB_ren];rfl)
  ·cases hs
 ·cases hs
def eStep:yn_:=fun args h m=>match args with
 | [.ptr e []]=>match engP h e with
  | some (s,v,x,P,(g,c,k,i),ok)=>some (ok∧PG P∧VOk v∧SG P s,.int .i64 (x3_ P v s),[e,g,c,k,i],[(e,eB g i P.length),(g,mB (xx_ P v s) v (stepX P s x) c m),(c,cB (xx_ P v s)),(k,.gone),(i,prO P),(m,sB (xx_ P v s))])
  | none=>none
 | _=>none
theorem eStep_ok:zi_ Tryz.prog 91 eStep:=by
 refine⟨zg_ (by kernel_rfl),fun args h m c v rd wr hs hm hc w0 M β h' w R hrd hwr hst=>?_⟩
 unfold eStep at hs
 split at hs
 ·rename_i e
  split at hs
  ·rename_i s v x P g c k i ok hep
   simp only[Option.some.injEq,Prod.mk.injEq]at hs
   obtain⟨rfl,rfl,rfl,rfl⟩:=hs
   obtain⟨ok1,ok2,rfl,hmp,hpp,he,hnd⟩:=engP_val hep
   obtain⟨⟨hok,hok2⟩,hP,hV,hS⟩:=hc
   have ee:=hrd e (by simp)
   have eg:=hrd g (by simp)
   have ec:=hrd c (by simp)
   have ek:=hrd k (by simp)
   have ei:=hrd i (by simp)
   exact bun_ok (h:=h) (m:=m) [0,e,g,c,k,i] (Step_lit P s v x hP hV hS) R rfl (by simp) rfl rfl hnd
    ⟨Fit.gone (by rw[R.nil0];rfl),bun_engO he ee rfl rfl,bun_mac hmp hok eg rfl rfl,bun_cel hmp hok ec,bun_snd hmp hok ek,bun_prO hpp hok2 ei,trivial⟩ hm
    (fun p hp=>by
     simp only[newB,List.drop,List.length_cons,List.length_nil,List.mem_cons,List.not_mem_nil,or_false]at hp
     subst hp
     exact hwr (m,sB (xx_ P v s)) (by simp)) (by simp) rfl
    ⟨trivial,eB_st rfl rfl,mB_st rfl rfl,cB_st,sB_st,prO_st,trivial⟩ ⟨rfl,trivial⟩
    ⟨trivial,eB_st rfl rfl,mB_st rfl rfl,cB_st,trivial,prO_st,sB_st,trivial⟩ (trivial) rfl rfl (by show [(e,(eB 2 5 _).ren _),(g,(mB _ v _ 3 6).ren _),(c,(cB _).ren _),(k,HB.gone.ren _),(i,(prO P).ren _),(m,(sB _).ren _)]=_;rw[eB_ren,mB_ren,cB_ren,sB_ren,prO_ren];simp[wd_,HB.ren])
  ·cases hs
 ·cases hs
theorem rright_lit (f:Int):zs_ Tryz.prog 52 [.int .i64 f] [.gone] (.int .i64 (rrE f)) [.gone]:=by
 by_cases h1:f < 0
 ·have e:rrE f=2:=by unfold rrE;rw[if_pos (.inl h1)]
  rw[e]
  refine zf_ (fn:=Tryz.f52) 1 9 0 rfl rfl rfl rfl rfl u19_ rfl fun w0 M E hro=>?_
  repeat' (first|refine Ctl.h ?_ |((with_reducible intro hif);first |(focus (cases hif;done)) |((try simp only[JH]at hif);try exact hy_)) |((with_reducible first|apply J22 zv_ za_|apply J23 fol zv_ za_|apply J24);(·rfl);(· (simp only[push_cast,↓JP,Nat.reduceAdd,Nat.reduceEqDiff,Nat.reduceLT,Nat.reduceMul,Nat.reduceLeDiff,reduceCtorEq,reduceIte,↓JK,inR,inN,h1];rfl));(try kernel_rfl);try exact k15_)|fail)
  apply At.endsRet za_ (fn:=Tryz.f52) (rs:=[.tmp 2]) Anc.refl hro (lb_ rfl) rfl
  ·exact yl_
  ·exact k6_
  ·exact k7_
  ·rfl
  ·exact k125_
  ·exact k9_
  ·exact fun β=>rfl
  ·exact k125_
 ·by_cases h2:4096 < f
  ·have e:rrE f=2:=by unfold rrE;rw[if_pos (.inr h2)]
   rw[e]
   refine zf_ (fn:=Tryz.f52) 1 9 0 rfl rfl rfl rfl rfl u19_ rfl fun w0 M E hro=>?_
   repeat' (first|refine Ctl.h ?_ |((with_reducible intro hif);first |(focus (cases hif;done)) |((try simp only[JH]at hif);try exact hy_)) |((with_reducible first|apply J22 zv_ za_|apply J23 fol zv_ za_|apply J24);(·rfl);(· exact k128_);(try kernel_rfl);try exact k15_)|fail)
   apply At.endsRet za_ (fn:=Tryz.f52) (rs:=[.tmp 2]) Anc.refl hro (lb_ rfl) rfl
   ·exact yl_
   ·exact k6_
   ·exact k7_
   ·rfl
   ·exact k125_
   ·exact k9_
   ·exact fun β=>rfl
   ·exact k125_
  ·have e:rrE f=0:=by unfold rrE;rw[if_neg (by omega)]
   rw[e]
   refine zf_ (fn:=Tryz.f52) 1 9 0 rfl rfl rfl rfl rfl u19_ rfl fun w0 M E hro=>?_
   repeat' (first|refine Ctl.h ?_ |((with_reducible intro hif);first |(focus (cases hif;done)) |((try simp only[JH]at hif);try exact hy_)) |((with_reducible first|apply J22 zv_ za_|apply J23 fol zv_ za_|apply J24);(·rfl);(· exact k128_);(try kernel_rfl);try exact k15_)|fail)
   apply At.endsRet za_ (fn:=Tryz.f52) (rs:=[.tmp 2]) Anc.refl hro (lb_ rfl) rfl
   ·exact yl_
   ·exact k6_
   ·exact k7_
   ·rfl
   ·exact k125_
   ·exact k9_
   ·exact fun β=>rfl
   ·exact k125_
def sRRight:yn_:=fun args h m=>match args with
 | [v1]=>bif isI .i64 v1 then some (True,.int .i64 (rrE (iOf v1)),[],[])else none
 | _=>none
theorem sRRight_ok:zi_ Tryz.prog 52 sRRight:=by
 refine⟨zg_ (by kernel_rfl),fun args h m c v rd wr hs hm hc w0 M β h' w R hrd hwr hst=>?_⟩
 unfold sRRight at hs
 split at hs
 ·rename_i v1
  obtain⟨hb,hs⟩:=zl_ hs
  simp only[Option.some.injEq,Prod.mk.injEq]at hs
  obtain⟨rfl,rfl,rfl,rfl⟩:=hs
  have b1:=hb
  refine yh_ (views:=[]) (rright_lit (iOf v1)) ?_ R hm hwr ?_ ?_ ?_
  ·intro x hx;cases hx
  ·exact d26_
  ·exact k125_
  ·exact k125_
 ·cases hs
def pbB (e:Nat):HB:=.own 49 (.ptr e []) true
def fbB (f:Int):HB:=.own 3 (.int .i64 f) true
theorem steps_lit (f:Int):zs_ Tryz.prog 49 [.ptr 1 [],.int .i64 f] [.gone,.gone] (.fn 88 [.ptr 2 [],.ptr 3 []]) [.gone,.gone,pbB 1,fbB f]:=by
 refine zf_ (fn:=Tryz.f49) 2 6 0 rfl rfl rfl rfl rfl u19_ rfl fun w0 M E hro=>?_
 repeat' (first|refine Ctl.h ?_ |((with_reducible intro hif);first |(focus (cases hif;done)) |((try simp only[JH]at hif);try exact hy_)) |((with_reducible first|apply J22 zv_ za_|apply J23 fol zv_ za_|apply J24);(·rfl);(· (simp only[push_cast,↓JP,Nat.reduceAdd,Nat.reduceEqDiff,Nat.reduceLT,Nat.reduceMul,Nat.reduceLeDiff,reduceCtorEq,reduceIte,↓JK,inR,inN];rfl));(try kernel_rfl);try exact k15_)|fail)
 apply At.endsPick [0,1,2,3] za_ (fn:=Tryz.f49) (rs:=[.tmp 4]) Anc.refl hro (lb_ rfl) rfl
 ·exact yl_
 ·exact xz_
 ·rfl
 ·rfl
 ·rfl
 ·exact k40_
 ·rfl
 ·exact k125_
 ·exact k9_
 ·exact fun β=>rfl
 ·exact k125_
def sSteps:yn_:=fun args h m=>match args with
 | [.ptr e [],.int .i64 f]=>bif (h e).born && z3_ [0,e] then some (True,.fn 88 [.ptr m [],.ptr (m+1) []],[e],[(m,pbB e),(m+1,fbB f)])else none
 | _=>none
theorem sSteps_ok:zi_ Tryz.prog 49 sSteps:=by
 refine⟨zg_ (by kernel_rfl),fun args h m c v rd wr hs hm hc w0 M β h' w R hrd hwr hst=>?_⟩
 unfold sSteps at hs
 split at hs
 ·rename_i e f
  obtain⟨hb,hs⟩:=zl_ hs
  simp only[Option.some.injEq,Prod.mk.injEq]at hs
  obtain⟨rfl,rfl,rfl,rfl⟩:=hs
  simp only[Bool.and_eq_true]at hb
  obtain⟨b1,hnd⟩:=hb
  have e1:wd_ [0,e] m 2=m:=by simp[wd_]
  have e2:wd_ [0,e] m 3=m+1:=by simp[wd_]
  exact bun_ok (h:=h) (m:=m) [0,e] (steps_lit f) R rfl (by simp) rfl rfl hnd
   ⟨Fit.gone (by rw[R.nil0];rfl),Fit.gone (by rw[hrd e (by simp)];exact b1),trivial⟩ hm
   (fun p hp=>by
    simp only[newB,List.drop,List.length_cons,List.length_nil,List.mem_cons,List.not_mem_nil,or_false]at hp
    rcases hp with rfl|rfl
    ·exact hwr (m,pbB e) (by simp)
    ·exact hwr (m+1,fbB f) (by simp)) (by simp) rfl
   ⟨trivial,trivial,trivial⟩ ⟨rfl,trivial,trivial⟩ ⟨trivial,trivial,by simp[pbB,HB.stable,zc_,hp,mrgL,HB.born],trivial,trivial⟩ (by simp[zc_,ze_,hp,mrgL,HB.born,pbB,fbB]) rfl
   (by simp only [SV.ren, renL, e1, e2]) (by
    show [(m,(pbB 1).ren _),(m+1,(fbB f).ren _)]=_
    rfl)
 ·cases hs
theorem ls_zero {α : Type}(g:SV→α)(f:Nat→SV):ls g 0 f=[]:=rfl
theorem beg_fold (y t s d:Int)(cs:List Int):Sta.mk 0 false (fun q=>begR y t s q) cs d []=yo_ y t s cs d:=rfl
set_option linter.defProp false in
def JB:=And.intro @ls_zero @beg_fold
def cRo:FuncId→Option yn_:=y9_ [(52,sRRight),(82,sBegin),(84,sOnG)]
theorem cRo_ok:∀f S,cRo f=some S→zi_ Tryz.prog f S:=zr_ ⟨sRRight_ok,sBegin_ok,sOnG_ok,trivial⟩
theorem rop_good (P:List Ins)(v:Evi)(t s q o y d f:Int)(cs:List Int)(p1 p2:Nat)(hP:∀x∈P,x.ok)(hn:P.length≤1000000)(hc:cs.length≤1000000)(hE:ropE P v (yo_ y t s cs d) f=0):zs_ Tryz.prog 48 [.sl 1 2 [] 5 0 P.length (some p1),.agg [.int .u64 v.seed,.int .i64 v.process,.int .i64 v.ports,.int .i64 v.look,.int .i64 v.now],.agg [.agg [.int .i64 t,.int .i64 s,.int .i64 q],.int .i64 o,.int .i64 y],.sl 3 4 [] 1 0 cs.length (some p2),.int .i64 d,.int .i64 f]
  [.gone,.gone,.ro (.arr P.length 5 (prS P)),.gone,.ro (.arr cs.length 1 (zp_ cs))]
  (.tup [.ptr 5 [],.int .i64 0]) [.gone,.gone,.gone,.gone,.gone,eB 6 9 P.length,mB (yo_ y t s cs d) v Ins0 7 8,cB (yo_ y t s cs d),sB (yo_ y t s cs d),prO P]:=by
 have hf:=(ropE_zero hE).1
 have hO:=(ropE_zero hE).2
 have hr:rrE f=0:=by unfold rrE;rw[if_neg (by omega)]
 refine zf_ (fn:=Tryz.f48) 5 29 0 rfl rfl rfl rfl rfl u19_ rfl fun w0 M E hro=>?_
 repeat' (first|refine Ctl.h ?_ |((with_reducible intro hif);first |(focus (cases hif;done)) |((try simp only[JH]at hif);try exact hy_)) |((with_reducible first|apply J22 cRo_ok za_|apply J23 fol cRo_ok za_|apply J24);(·rfl);(· (simp only[push_cast,↓JP,Nat.reduceAdd,Nat.reduceEqDiff,Nat.reduceLT,Nat.reduceMul,Nat.reduceLeDiff,reduceCtorEq,reduceIte,↓JK,cRo,sRRight,sBegin,sOnG,JE,JB,inR,inN,hr,hO];rfl));(try kernel_rfl);try exact k121_)|fail)
 apply At.endsPick [0,1,2,3,4,8,9,10,11,12] za_ (fn:=Tryz.f48) (rs:=[.tmp 12,.tmp 13]) Anc.refl hro (lb_ rfl) rfl
 ·exact yl_
 ·exact xz_
 ·rfl
 ·rfl
 ·rfl
 ·exact k40_
 ·rfl
 ·exact k125_
 ·exact k9_
 ·exact fun β=>rfl
 ·exact k125_
def cRb:FuncId→Option yn_:=y9_ [(52,sRRight),(82,sBegin),(84,sOnB)]
theorem cRb_ok:∀f S,cRb f=some S→zi_ Tryz.prog f S:=zr_ ⟨sRRight_ok,sBegin_ok,sOnB_ok,trivial⟩
theorem rop_bad (P:List Ins)(v:Evi)(t s q o y d f:Int)(cs:List Int)(p1 p2:Nat)(hP:∀x∈P,x.ok)(hn:P.length≤1000000)(hc:cs.length≤1000000)(hE:ropE P v (yo_ y t s cs d) f≠0):zs_ Tryz.prog 48 [.sl 1 2 [] 5 0 P.length (some p1),.agg [.int .u64 v.seed,.int .i64 v.process,.int .i64 v.ports,.int .i64 v.look,.int .i64 v.now],.agg [.agg [.int .i64 t,.int .i64 s,.int .i64 q],.int .i64 o,.int .i64 y],.sl 3 4 [] 1 0 cs.length (some p2),.int .i64 d,.int .i64 f]
  [.gone,.gone,.ro (.arr P.length 5 (prS P)),.gone,.ro (.arr cs.length 1 (zp_ cs))]
  (.tup [.nilp,.int .i64 (ropE P v (yo_ y t s cs d) f)]) [.gone]:=by
 by_cases hr:rrE f=0
 ·have e:ropE P v (yo_ y t s cs d) f=yt_ P v (yo_ y t s cs d):=by unfold ropE;rw[if_pos hr]
  rw[e]at hE ⊢
  refine zf_ (fn:=Tryz.f48) 5 29 0 rfl rfl rfl rfl rfl u19_ rfl fun w0 M E hro=>?_
  repeat' (first|refine Ctl.h ?_ |((with_reducible intro hif);first |(focus (cases hif;done)) |((try simp only[JH]at hif);try exact hy_)) |((with_reducible first|apply J22 cRb_ok za_|apply J23 fol cRb_ok za_|apply J24);(·rfl);(· (simp only[push_cast,↓JP,Nat.reduceAdd,Nat.reduceEqDiff,Nat.reduceLT,Nat.reduceMul,Nat.reduceLeDiff,reduceCtorEq,reduceIte,↓JK,cRb,sRRight,sBegin,sOnB,JE,JB,inR,inN,hr,hE];rfl));(try kernel_rfl);try exact k121_)|fail)
  apply At.endsRet za_ (fn:=Tryz.f48) (rs:=[.tmp 12,.tmp 13]) Anc.refl hro (lb_ rfl) rfl
  ·exact yl_
  ·exact k6_
  ·exact k7_
  ·rfl
  ·exact k125_
  ·exact k9_
  ·exact fun β=>rfl
  ·exact k125_
 ·have e:ropE P v (yo_ y t s cs d) f=rrE f:=by unfold ropE;rw[if_neg hr]
  rw[e]
  refine zf_ (fn:=Tryz.f48) 5 29 0 rfl rfl rfl rfl rfl u19_ rfl fun w0 M E hro=>?_
  repeat' (first|refine Ctl.h ?_ |((with_reducible intro hif);first |(focus (cases hif;done)) |((try simp only[JH]at hif);try exact hy_)) |((with_reducible first|apply J22 cRb_ok za_|apply J23 fol cRb_ok za_|apply J24);(·rfl);(· (simp only[push_cast,↓JP,Nat.reduceAdd,Nat.reduceEqDiff,Nat.reduceLT,Nat.reduceMul,Nat.reduceLeDiff,reduceCtorEq,reduceIte,↓JK,cRb,sRRight,sBegin,sOnB,JE,JB,inR,inN,hr];rfl));(try kernel_rfl);try exact k121_)|fail)
  apply At.endsRet za_ (fn:=Tryz.f48) (rs:=[.tmp 12,.tmp 13]) Anc.refl hro (lb_ rfl) rfl
  ·exact yl_
  ·exact k6_
  ·exact k7_
  ·rfl
  ·exact k125_
  ·exact k9_
  ·exact fun β=>rfl
  ·exact k125_
def sRoG:yn_:=fun args h m=>match args with
 | [v1,.agg [v2,v3,v4,v5,v6],.agg [.agg [v7,v8,v9],v10,v11],v12,v13,v14]=>match xm_ h 5 (.tup []) v1,xm_ h 1 (.tup []) v12 with
  | some (c1,n1,f1,r1),some (c12,n12,f12,r12)=>bif isI .u64 v2 && isI .i64 v3 && isI .i64 v4 && isI .i64 v5 && isI .i64 v6 && isI .i64 v7 && isI .i64 v8 && isI .i64 v9 && isI .i64 v10 && isI .i64 v11 && isI .i64 v13 && isI .i64 v14 then some (c1∧c12∧(∀q,q < n1→isIns (f1 q)=true)∧(∀q,q < n12→isI .i64 (f12 q)=true)∧((∀x∈(ls zm_ n1 f1),x.ok))∧(n1≤1000000)∧(n12≤1000000)∧(ropE (ls zm_ n1 f1) ⟨(iOf v2),(iOf v3),(iOf v4),(iOf v5),(iOf v6)⟩ (yo_ (iOf v11) (iOf v7) (iOf v8) (ls iOf n12 f12) (iOf v13)) (iOf v14)=0),.tup [.ptr m [],.int .i64 0],r1++r12,[(m,eB (m+1) (m+4) (ls zm_ n1 f1).length),(m+1,mB (yo_ (iOf v11) (iOf v7) (iOf v8) (ls iOf n12 f12) (iOf v13)) ⟨(iOf v2),(iOf v3),(iOf v4),(iOf v5),(iOf v6)⟩ Ins0 (m+2) (m+3)),(m+2,cB (yo_ (iOf v11) (iOf v7) (iOf v8) (ls iOf n12 f12) (iOf v13))),(m+3,sB (yo_ (iOf v11) (iOf v7) (iOf v8) (ls iOf n12 f12) (iOf v13))),(m+4,prO (ls zm_ n1 f1))])else none
  | _,_=>none
 | _=>none
theorem sRoG_ok:zi_ Tryz.prog 48 sRoG:=by
 refine⟨zg_ (by kernel_rfl),fun args h m c v rd wr hs hm hc w0 M β h' w R hrd hwr hst=>?_⟩
 unfold sRoG at hs
 split at hs
 ·rename_i v1 v2 v3 v4 v5 v6 v7 v8 v9 v10 v11 v12 v13 v14
  split at hs
  ·rename_i c1 n1 f1 r1 c12 n12 f12 r12 a1 a12
   obtain⟨hb,hs⟩:=zl_ hs
   simp only[Option.some.injEq,Prod.mk.injEq]at hs
   obtain⟨rfl,rfl,rfl,rfl⟩:=hs
   simp only[Bool.and_eq_true]at hb
   obtain⟨⟨⟨⟨⟨⟨⟨⟨⟨⟨⟨b2,b3⟩,b4⟩,b5⟩,b6⟩,b7⟩,b8⟩,b9⟩,b10⟩,b11⟩,b13⟩,b14⟩:=hb
   obtain⟨k1,k12,g1,g12,y1,y2,y3,y4⟩:=hc
   obtain⟨A1,p1,d1,e1,t1⟩:=zh_ R a1 k1 (fun i hi=>hrd i (List.mem_append_left _ hi)) (by omega)
   obtain⟨A12,p12,d12,e12,t12⟩:=zh_ R a12 k12 (fun i hi=>hrd i (List.mem_append_right _ hi)) (by omega)
   refine yh_ (views:=[⟨5,(ls zm_ n1 f1).length,prS (ls zm_ n1 f1),A1,p1⟩,⟨1,(ls iOf n12 f12).length,zp_ (ls iOf n12 f12),A12,p12⟩]) (rop_good (ls zm_ n1 f1) ⟨(iOf v2),(iOf v3),(iOf v4),(iOf v5),(iOf v6)⟩ (iOf v7) (iOf v8) (iOf v9) (iOf v10) (iOf v11) (iOf v13) (iOf v14) (ls iOf n12 f12) p1 p12 y1 (by rw[zb_];exact y2) (by rw[zb_];exact y3) y4) ?_ R hm hwr ?_ ?_ ?_
   ·exact d43_
   ·exact d46_
   ·exact k125_
   ·exact k125_
  ·cases hs
 ·cases hs
def sRoB:yn_:=fun args h m=>match args with
 | [v1,.agg [v2,v3,v4,v5,v6],.agg [.agg [v7,v8,v9],v10,v11],v12,v13,v14]=>match xm_ h 5 (.tup []) v1,xm_ h 1 (.tup []) v12 with
  | some (c1,n1,f1,r1),some (c12,n12,f12,r12)=>bif isI .u64 v2 && isI .i64 v3 && isI .i64 v4 && isI .i64 v5 && isI .i64 v6 && isI .i64 v7 && isI .i64 v8 && isI .i64 v9 && isI .i64 v10 && isI .i64 v11 && isI .i64 v13 && isI .i64 v14 then some (c1∧c12∧(∀q,q < n1→isIns (f1 q)=true)∧(∀q,q < n12→isI .i64 (f12 q)=true)∧((∀x∈(ls zm_ n1 f1),x.ok))∧(n1≤1000000)∧(n12≤1000000)∧(ropE (ls zm_ n1 f1) ⟨(iOf v2),(iOf v3),(iOf v4),(iOf v5),(iOf v6)⟩ (yo_ (iOf v11) (iOf v7) (iOf v8) (ls iOf n12 f12) (iOf v13)) (iOf v14)≠0),.tup [.nilp,.int .i64 (ropE (ls zm_ n1 f1) ⟨(iOf v2),(iOf v3),(iOf v4),(iOf v5),(iOf v6)⟩ (yo_ (iOf v11) (iOf v7) (iOf v8) (ls iOf n12 f12) (iOf v13)) (iOf v14))],r1++r12,[])else none
  | _,_=>none
 | _=>none
theorem sRoB_ok:zi_ Tryz.prog 48 sRoB:=by
 refine⟨zg_ (by kernel_rfl),fun args h m c v rd wr hs hm hc w0 M β h' w R hrd hwr hst=>?_⟩
 unfold sRoB at hs
 split at hs
 ·rename_i v1 v2 v3 v4 v5 v6 v7 v8 v9 v10 v11 v12 v13 v14
  split at hs
  ·rename_i c1 n1 f1 r1 c12 n12 f12 r12 a1 a12
   obtain⟨hb,hs⟩:=zl_ hs
   simp only[Option.some.injEq,Prod.mk.injEq]at hs
   obtain⟨rfl,rfl,rfl,rfl⟩:=hs
   simp only[Bool.and_eq_true]at hb
   obtain⟨⟨⟨⟨⟨⟨⟨⟨⟨⟨⟨b2,b3⟩,b4⟩,b5⟩,b6⟩,b7⟩,b8⟩,b9⟩,b10⟩,b11⟩,b13⟩,b14⟩:=hb
   obtain⟨k1,k12,g1,g12,y1,y2,y3,y4⟩:=hc
   obtain⟨A1,p1,d1,e1,t1⟩:=zh_ R a1 k1 (fun i hi=>hrd i (List.mem_append_left _ hi)) (by omega)
   obtain⟨A12,p12,d12,e12,t12⟩:=zh_ R a12 k12 (fun i hi=>hrd i (List.mem_append_right _ hi)) (by omega)
   refine yh_ (views:=[⟨5,(ls zm_ n1 f1).length,prS (ls zm_ n1 f1),A1,p1⟩,⟨1,(ls iOf n12 f12).length,zp_ (ls iOf n12 f12),A12,p12⟩]) (rop_bad (ls zm_ n1 f1) ⟨(iOf v2),(iOf v3),(iOf v4),(iOf v5),(iOf v6)⟩ (iOf v7) (iOf v8) (iOf v9) (iOf v10) (iOf v11) (iOf v13) (iOf v14) (ls iOf n12 f12) p1 p12 y1 (by rw[zb_];exact y2) (by rw[zb_];exact y3) y4) ?_ R hm hwr ?_ ?_ ?_
   ·exact d43_
   ·exact d46_
   ·exact k125_
   ·exact k125_
  ·cases hs
 ·cases hs
end Go.Proofs.YtjliakjbdcplcaaGreat.Vm
end
end

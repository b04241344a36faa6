import Derived.Test.YtmljmabbopkpiaaV1
import Derived.Test.YtmljmabbopkpiaaV16
import Derived.Test.YtmljmabbopkpiaaV18
set_option linter.unusedSimpArgs false
set_option linter.unusedVariables false
set_option maxRecDepth 100000
set_option maxHeartbeats 4000000
section
open Go.Proofs.Ytmljmabbopkpiaa.Vm Go.RowKit
attribute [local push_cast] eqB eqBL allB prS sndsS i64S nav_ins nav_ins0 nav_ins1 nav_ins2 nav_ins3 nav_ins4 nav_snd nav_snd0 nav_snd1 nav_snd2 yz_ zf_ yy_ yx_ isI_int isI_nat iOf nav_k nav_k0 nav_k1 nav_ka nav_kai nav_ft nav_ft0 nav_ft1 isKn_kS knOf_kS isKa_kaS kaOf_kaS isFt_ftS ftOf_ftS setp_ka setp_ftk setp_ftr setp_fti evm_ins evm_snd evm_k evm_ka evm_ft
section
namespace Go.Proofs.Ytmljmabbopkpiaa.Vm
open Go.RowKit
def sFactsI:Spec:=fun args h m=>match args with
 | [v1]=>match srcV h 5 (.tup []) v1 with
  | some (c1,n1,f1,r1)=>some (c1∧(∀q,q < n1→isIns (f1 q)=true)∧((∀x∈(ls zg_ n1 f1),x.ok))∧((z7_ (ls zg_ n1 f1)).2=0),.sl m m [] 17 0 (ls zg_ n1 f1).length none,r1,[(m,.own 44 (.arr (ls zg_ n1 f1).length 17 (ftsS (z1_ (ls zg_ n1 f1)))) false)])
  | _=>none
 | _=>none
theorem sFactsI_ok:zs_ Try.prog 56 sFactsI:=by
 refine⟨zp_ (by kernel_rfl),fun args h m c v rd wr hs hm hc w0 M β h' w R hrd hwr hst=>?_⟩
 unfold sFactsI at hs
 split at hs
 ·rename_i v1
  split at hs
  ·rename_i c1 n1 f1 r1 a1
   simp only[Option.some.injEq,Prod.mk.injEq]at hs
   obtain⟨rfl,rfl,rfl,rfl⟩:=hs
   obtain⟨k1,g1,y1,y2⟩:=hc
   obtain⟨A1,p1,d1,e1,t1⟩:=yn_ R a1 k1 (fun i hi=>hrd i hi) (by omega)
   refine callRo (views:=[⟨5,(ls zg_ n1 f1).length,prS (ls zg_ n1 f1),A1,p1⟩]) (facts_lit (ls zg_ n1 f1) p1 y1 y2) ?_ R hm hwr ?_ ?_ ?_
   ·exact d16_
   ·exact d17_
   ·exact zl_
   ·exact zl_
  ·cases hs
 ·cases hs
def cWh:FuncId→Option Spec:=look2 [(56,sFactsI),(57,sFits),(58,sWhyL),(55,sCheck)]
theorem cWh_ok:∀f S,cWh f=some S→zs_ Try.prog f S:=yi_ ⟨sFactsI_ok,sFits_ok,sWhyL_ok,sCheck_ok,trivial⟩
def whyR (xs:List Ins)(c p l i:Int):Int×Int:=if fitE xs c p l≠0 then(0,fitE xs c p l)else if i < 0∨xs.length≤i then(0,2)else(whyE c p l (xs.getD i.toNat ⟨0,0,0,0,0⟩) (z6_ (z1_ xs) i.toNat),0)
theorem Why_lit (xs:List Ins)(p1:Nat)(c p l i:Int)(hx:∀x∈xs,x.ok)(hl:xs.length≤281474976710656):LitOk Try.prog 22 [.sl 1 2 [] 5 0 xs.length (some p1),.agg [.int .i64 c,.int .i64 p,.int .i64 l],.int .i64 i] [.gone,.gone,.ro (.arr xs.length 5 (prS xs))] (.tup [.int .i64 (whyR xs c p l i).1,.int .i64 (whyR xs c p l i).2]) [.gone]:=by
 refine litOkM (fn:=Try.f22) 3 34 0 rfl rfl rfl rfl rfl u2_ rfl fun w0 M E hro=>?_
 by_cases h1:fitE xs c p l=0
 ·by_cases h2:i < 0
  ·have e:whyR xs c p l i=(0,2):=by unfold whyR;rw[if_neg (fun h=>h h1),if_pos (.inl h2)]
   rw[e]
   repeat' (first|refine Ctl.h ?_ |((with_reducible intro hif);first |(focus (cases hif;done)) |((try simp only[JH]at hif);try exact hy_)) |((with_reducible first|apply J22 cWh_ok za_|apply J23 fol cWh_ok za_|apply J24);(·rfl);(· (simp only[push_cast,↓JP,Nat.reduceAdd,Nat.reduceEqDiff,Nat.reduceLT,Nat.reduceMul,Nat.reduceLeDiff,reduceCtorEq,reduceIte,↓JK,↓JF,cWh,sFits,z9_,zy_,ls_prS2,h1,h2];rfl));(try kernel_rfl);try exact k8_)|fail)
   apply At.endsRet za_ (fn:=Try.f22) (rs:=[.tmp 6,.tmp 7]) Anc.refl hro (lb_ rfl) rfl
   ·exact k62_
   ·exact k4_
   ·exact k5_
   ·rfl
   ·exact zl_
   ·exact k7_
   ·exact fun β=>rfl
   ·exact zl_
  ·by_cases h3:(xs.length:Int)≤i
   ·have e:whyR xs c p l i=(0,2):=by unfold whyR;rw[if_neg (fun h=>h h1),if_pos (.inr h3)]
    rw[e]
    repeat' (first|refine Ctl.h ?_ |((with_reducible intro hif);first |(focus (cases hif;done)) |((try simp only[JH]at hif);try exact hy_)) |((with_reducible first|apply J22 cWh_ok za_|apply J23 fol cWh_ok za_|apply J24);(·rfl);(· (simp only[push_cast,↓JP,Nat.reduceAdd,Nat.reduceEqDiff,Nat.reduceLT,Nat.reduceMul,Nat.reduceLeDiff,reduceCtorEq,reduceIte,↓JK,↓JF,cWh,sFits,z9_,zy_,ls_prS2,h1,h2,h3];rfl));(try kernel_rfl);try exact k8_)|fail)
    apply At.endsRet za_ (fn:=Try.f22) (rs:=[.tmp 6,.tmp 7]) Anc.refl hro (lb_ rfl) rfl
    ·exact k62_
    ·exact k4_
    ·exact k5_
    ·rfl
    ·exact zl_
    ·exact k7_
    ·exact fun β=>rfl
    ·exact zl_
   ·have hc:(z7_ xs).2=0:=by
     unfold fitE at h1
     by_cases q:(z7_ xs).2=0
     ·exact q
     ·rw[if_neg q]at h1;cases h1
    have hk:i.toNat < xs.length:=by omega
    obtain⟨x,hX⟩:∃x,xs.getD i.toNat ⟨0,0,0,0,0⟩=x:=⟨_,rfl⟩
    have hR:=right_at hx hc hk
    rw[hX]at hR
    have hok:=hR.ok
    have ha8:=hR.a
    have hb8:=hR.b
    have hc8:=hR.c
    have e:whyR xs c p l i=(whyE c p l x (z6_ (z1_ xs) i.toNat),0):=by unfold whyR;rw[if_neg (fun h=>h h1),if_neg (by omega),hX]
    rw[e]
    repeat' (first|refine Ctl.h ?_ |((with_reducible intro hif);first |(focus (cases hif;done)) |((try simp only[JH]at hif);try exact hy_)) |((with_reducible first|apply J22 cWh_ok za_|apply J23 fol cWh_ok za_|apply J24);(·rfl);(· (simp only[push_cast,↓JP,Nat.reduceAdd,Nat.reduceEqDiff,Nat.reduceLT,Nat.reduceMul,Nat.reduceLeDiff,reduceCtorEq,reduceIte,↓JK,↓JF,cWh,sFits,sFactsI,sWhyL,z9_,zy_,ls_prS2,ftsS,h1,h2,h3,hX,hc];rfl));(try kernel_rfl);try exact k11_)|fail)
    apply At.endsRet za_ (fn:=Try.f22) (rs:=[.tmp 6,.tmp 7]) Anc.refl hro (lb_ rfl) rfl
    ·exact k62_
    ·exact k4_
    ·exact k5_
    ·rfl
    ·exact zl_
    ·exact k7_
    ·exact fun β=>rfl
    ·exact zl_
 ·have e:whyR xs c p l i=(0,fitE xs c p l):=by unfold whyR;rw[if_pos h1]
  rw[e]
  repeat' (first|refine Ctl.h ?_ |((with_reducible intro hif);first |(focus (cases hif;done)) |((try simp only[JH]at hif);try exact hy_)) |((with_reducible first|apply J22 cWh_ok za_|apply J23 fol cWh_ok za_|apply J24);(·rfl);(· (simp only[push_cast,↓JP,Nat.reduceAdd,Nat.reduceEqDiff,Nat.reduceLT,Nat.reduceMul,Nat.reduceLeDiff,reduceCtorEq,reduceIte,↓JK,↓JF,cWh,sFits,z9_,zy_,ls_prS2,h1];rfl));(try kernel_rfl);try exact k8_)|fail)
  apply At.endsRet za_ (fn:=Try.f22) (rs:=[.tmp 6,.tmp 7]) Anc.refl hro (lb_ rfl) rfl
  ·exact k62_
  ·exact k4_
  ·exact k5_
  ·rfl
  ·exact zl_
  ·exact k7_
  ·exact fun β=>rfl
  ·exact zl_
def sWhy17:Spec:=fun args h m=>match args with
 | [v1,.agg [v2,v3,v4],v5]=>match srcV h 5 (.tup []) v1 with
  | some (c1,n1,f1,r1)=>bif isI .i64 v2 && isI .i64 v3 && isI .i64 v4 && isI .i64 v5 then some (c1∧(∀q,q < n1→isIns (f1 q)=true)∧((∀x∈(ls zg_ n1 f1),x.ok))∧(n1≤281474976710656),.tup [.int .i64 (whyR (ls zg_ n1 f1) (iOf v2) (iOf v3) (iOf v4) (iOf v5)).1,.int .i64 (whyR (ls zg_ n1 f1) (iOf v2) (iOf v3) (iOf v4) (iOf v5)).2],r1,[])else none
  | _=>none
 | _=>none
theorem sWhy17_ok:zs_ Try.prog 22 sWhy17:=by
 refine⟨zp_ (by kernel_rfl),fun args h m c v rd wr hs hm hc w0 M β h' w R hrd hwr hst=>?_⟩
 unfold sWhy17 at hs
 split at hs
 ·rename_i v1 v2 v3 v4 v5
  split at hs
  ·rename_i c1 n1 f1 r1 a1
   obtain⟨hb,hs⟩:=zq_ hs
   simp only[Option.some.injEq,Prod.mk.injEq]at hs
   obtain⟨rfl,rfl,rfl,rfl⟩:=hs
   simp only[Bool.and_eq_true]at hb
   obtain⟨⟨⟨b2,b3⟩,b4⟩,b5⟩:=hb
   obtain⟨k1,g1,y1,y2⟩:=hc
   obtain⟨A1,p1,d1,e1,t1⟩:=yn_ R a1 k1 (fun i hi=>hrd i hi) (by omega)
   refine callRo (views:=[⟨5,(ls zg_ n1 f1).length,prS (ls zg_ n1 f1),A1,p1⟩]) (Why_lit (ls zg_ n1 f1) p1 (iOf v2) (iOf v3) (iOf v4) (iOf v5) y1 (by rw[zi_];exact y2)) ?_ R hm hwr ?_ ?_ ?_
   ·exact d16_
   ·intro β1 hv
    simp only[Vd,zi_,and_true]at hv
    have z1:=hv
    simp only[denL,aggDen,intDen,natDen,yr_,zi_,z1,d1,yh_ b2,yh_ b3,yh_ b4,yh_ b5]
   ·exact zl_
   ·exact zl_
  ·cases hs
 ·cases hs
theorem Facts_lit (xs:List Ins)(p1:Nat)(hx:∀x∈xs,x.ok)(hc:(z7_ xs).2=0):LitOk Try.prog 21 [.sl 1 2 [] 5 0 xs.length (some p1)] [.gone,.gone,.ro (.arr xs.length 5 (prS xs))] (.tup [.sl 3 3 [] 17 0 xs.length none,.int .i64 0]) [.gone,.gone,.gone,.own 44 (.arr xs.length 17 (ftsS (z1_ xs))) false]:=by
 refine litOkM (fn:=Try.f21) 3 15 0 rfl rfl rfl rfl rfl u2_ rfl fun w0 M E hro=>?_
 have hl:xs.length≤256:=(ys_ hc).2.1
 repeat' (first|refine Ctl.h ?_ |((with_reducible intro hif);first |(focus (cases hif;done)) |((try simp only[JH]at hif);try exact hy_)) |((with_reducible first|apply J22 cWh_ok za_|apply J23 fol cWh_ok za_|apply J24);(·rfl);(· (simp only[push_cast,↓JP,Nat.reduceAdd,Nat.reduceEqDiff,Nat.reduceLT,Nat.reduceMul,Nat.reduceLeDiff,reduceCtorEq,reduceIte,↓JK,↓JF,cWh,sFactsI,sCheck,z9_,zy_,ls_prS2,hc];rfl));(try kernel_rfl);try exact k11_)|fail)
 apply At.endsRet za_ (fn:=Try.f21) (rs:=[.tmp 2,.tmp 3]) Anc.refl hro (lb_ rfl) rfl
 ·exact k62_
 ·exact k4_
 ·exact k5_
 ·rfl
 ·exact zl_
 ·exact k7_
 ·exact fun β=>rfl
 ·exact zl_
def sFactsR:Spec:=fun args h m=>match args with
 | [v1]=>match srcV h 5 (.tup []) v1 with
  | some (c1,n1,f1,r1)=>some (c1∧(∀q,q < n1→isIns (f1 q)=true)∧((∀x∈(ls zg_ n1 f1),x.ok))∧((z7_ (ls zg_ n1 f1)).2=0),.tup [.sl m m [] 17 0 (ls zg_ n1 f1).length none,.int .i64 0],r1,[(m,.own 44 (.arr (ls zg_ n1 f1).length 17 (ftsS (z1_ (ls zg_ n1 f1)))) false)])
  | _=>none
 | _=>none
theorem sFactsR_ok:zs_ Try.prog 21 sFactsR:=by
 refine⟨zp_ (by kernel_rfl),fun args h m c v rd wr hs hm hc w0 M β h' w R hrd hwr hst=>?_⟩
 unfold sFactsR at hs
 split at hs
 ·rename_i v1
  split at hs
  ·rename_i c1 n1 f1 r1 a1
   simp only[Option.some.injEq,Prod.mk.injEq]at hs
   obtain⟨rfl,rfl,rfl,rfl⟩:=hs
   obtain⟨k1,g1,y1,y2⟩:=hc
   obtain⟨A1,p1,d1,e1,t1⟩:=yn_ R a1 k1 (fun i hi=>hrd i hi) (by omega)
   refine callRo (views:=[⟨5,(ls zg_ n1 f1).length,prS (ls zg_ n1 f1),A1,p1⟩]) (Facts_lit (ls zg_ n1 f1) p1 y1 y2) ?_ R hm hwr ?_ ?_ ?_
   ·exact d16_
   ·exact d17_
   ·exact zl_
   ·exact zl_
  ·cases hs
 ·cases hs
def lstN (f:Ft)(x:Ins):Int:=if (f.regs x.b.toNat).is_=false∨(f.regs x.b.toNat).n < 0∨1024≤(f.regs x.b.toNat).n then 0 else(f.regs x.b.toNat).n
def leastS (x:Ins)(f:Ft)(c:Int×Int):Int×Int:=
 if f.reached=false then c else if x.op=8 then(c.1,max c.2 (x.n+1))else if x.op=5∨x.op=6 then(max c.1 (lstN f x+1),c.2)else c
def z2_ (xs:List Ins)(F:List Ft):Nat→Int×Int
 | 0=>(0,0)
 | k+1=>leastS (xs.getD k ⟨0,0,0,0,0⟩) (z6_ F k) (z2_ xs F k)
theorem send_n {x:Ins}(h:oneE x=0)(h8:x.op=8):0≤x.n∧x.n < 16:=by
 unfold oneE at h
 have hf:yo_ x.op=5:=by rw[h8];rfl
 rw[hf,if_neg (by decide)]at h
 have hc:y3_ 5 x.a x.b x.c x.n:=by
  by_cases q:y3_ 5 x.a x.b x.c x.n
  ·exact q
  ·rw[yd_ q]at h;cases h
 exact⟨hc.2.2.2.1,hc.2.2.2.2⟩
theorem lstN_bd (f:Ft)(x:Ins):0≤lstN f x∧lstN f x < 1024:=by
 unfold lstN
 split
 ·omega
 ·rename_i h;omega
theorem leastK_bd {xs:List Ins}(hx:∀x∈xs,x.ok)(hc:(z7_ xs).2=0)(F:List Ft):∀k,k≤xs.length→0≤(z2_ xs F k).1∧(z2_ xs F k).1≤1024∧0≤(z2_ xs F k).2∧(z2_ xs F k).2≤16
 | 0,_=>by simp[z2_]
 | k+1,hk=>by
  obtain⟨h1,h2,h3,h4⟩:=leastK_bd hx hc F k (by omega)
  have hR:=right_at hx hc (k:=k) (by omega)
  have hn:=send_n hR.one
  have hb:=lstN_bd (z6_ F k) (xs.getD k ⟨0,0,0,0,0⟩)
  unfold z2_ leastS
  split
  ·exact⟨h1,h2,h3,h4⟩
  ·split
   ·rename_i h8
    have:=hn h8
    dsimp only
    omega
   ·split
    ·dsimp only
     omega
    ·exact⟨h1,h2,h3,h4⟩
def cLst:FuncId→Option Spec:=look2 [(21,sFactsR)]
theorem yk_:∀f S,cLst f=some S→zs_ Try.prog f S:=yi_ ⟨sFactsR_ok,trivial⟩
theorem lim_less {t:Nat}{ex:Bool}:Less (.own t (.agg [.nat .i64 0,.nat .i64 0,.nat .i64 1]) ex) (.own t (.agg [.int .i64 0,.int .i64 0,.nat .i64 1]) ex):=
 .val (fun β=>rfl) (fun n k f e=>by cases e) (fun n k f e=>by cases e)
theorem Least_lit (xs:List Ins)(p1:Nat)(hx:∀x∈xs,x.ok)(hc:(z7_ xs).2=0):LitOk Try.prog 20 [.sl 1 2 [] 5 0 xs.length (some p1)] [.gone,.gone,.ro (.arr xs.length 5 (prS xs))] (.tup [.agg [.int .i64 (z2_ xs (z1_ xs) xs.length).1,.int .i64 (z2_ xs (z1_ xs) xs.length).2,.int .i64 1],.int .i64 0]) [.gone]:=by
 refine litOkM (fn:=Try.f20) 3 94 0 rfl rfl rfl rfl rfl u2_ rfl fun w0 M E hro=>?_
 have hl:xs.length≤256:=(ys_ hc).2.1
 obtain⟨F,hF⟩:∃F,F=z1_ xs:=⟨_,rfl⟩
 have hll:=lim_less (t:=31) (ex:=true)
 repeat' (first|refine Ctl.h ?_ |((with_reducible intro hif);first |(focus (cases hif;done)) |((try simp only[JH]at hif);try exact hy_)) |((with_reducible first|apply J22 yk_ za_|apply J23 fol yk_ za_|apply J24);(·rfl);(· (simp only[push_cast,↓JP,Nat.reduceAdd,Nat.reduceEqDiff,Nat.reduceLT,Nat.reduceMul,Nat.reduceLeDiff,reduceCtorEq,reduceIte,↓JK,↓JF,cLst,sFactsR,z9_,zy_,ls_prS2,hc,←hF];rfl));(try kernel_rfl);try exact k11_)|fail)
 rw[←hF]
 refine WF.loopAt (fun k=>k≤xs.length) (fun k=>[(0,.sl 1 2 [] 5 0 xs.length (some p1)),(2,.ptr 3 []),(6,.ptr 5 []),(20,.sl 4 4 [] 17 0 xs.length none),(21,.nat .i64 xs.length),(22,.nat .i64 k)]) (fun k=>[.gone,.gone,.ro (.arr xs.length 5 (prS xs)),.own 31 (.agg [.nat .i64 0,.nat .i64 0,.nat .i64 0]) true,.own 44 (.arr xs.length 17 (ftsS F)) false,.own 31 (.agg [.int .i64 (z2_ xs F k).1,.int .i64 (z2_ xs F k).2,.nat .i64 1]) true]) (fun k=>xs.length - k) 0 (Nat.zero_le _) ?_ ?_ rfl ?_ ?_ rfl ?_
 ·exact k13_
 ·exact k5_
 ·exact zl_
 ·exact zl_
 intro k hk
 obtain⟨w1,w2,w3,w4⟩:=leastK_bd hx hc F k hk
 by_cases hkl:k < xs.length
 ·obtain⟨x,hX⟩:∃x,xs.getD k ⟨0,0,0,0,0⟩=x:=⟨_,rfl⟩
  have hR:=right_at hx hc hkl
  rw[hX]at hR
  obtain⟨o0,o1,a0,a1,b0,b1,c0,c1,n0',n1'⟩:=hR.ok
  have hb8:=hR.b
  have hbn:x.b.toNat < 8:=by omega
  obtain⟨c,pp,hcp⟩:∃c pp,z2_ xs F k=(c,pp):=⟨_,_,rfl⟩
  rw[hcp]at w1 w2 w3 w4
  rw[hcp]
  dsimp only at w1 w2 w3 w4 ⊢
  have hS:z2_ xs F (k+1)=leastS x (z6_ F k) (c,pp):=by show leastS (xs.getD k ⟨0,0,0,0,0⟩) (z6_ F k) (z2_ xs F k)=_;rw[hX,hcp]
  cases hre:(z6_ F k).reached
  ·have e:z2_ xs F (k+1)=(c,pp):=by rw[hS];unfold leastS;simp[hre]
   have e1:(z2_ xs F (k+1)).1=c:=by rw[e]
   have e2:(z2_ xs F (k+1)).2=pp:=by rw[e]
   repeat' (first|refine Ctl.h ?_ |((with_reducible intro hif);first |(focus (cases hif;done)) |((try simp only[JH]at hif);try exact hy_)) |((with_reducible first|apply J22 yk_ za_|apply J23 fol yk_ za_|apply J24);(·rfl);(· (simp only[push_cast,↓JP,Nat.reduceAdd,Nat.reduceEqDiff,Nat.reduceLT,Nat.reduceMul,Nat.reduceLeDiff,reduceCtorEq,reduceIte,↓JK,↓JF,cLst,ftsS,hX,inN,inR,hkl,hre];rfl));(try kernel_rfl);try exact k16_)|fail)
   refine At.nextPick [0,1,2,3,4,5] (k+1) ?_ rfl rfl rfl ?_ rfl ?_ ?_ ?_ rfl
   ·exact⟨hkl,by omega⟩
   ·exact k90_
   ·exact zl_
   ·exact k28_
   ·exact zl_
  ·by_cases h8:x.op=8
   ·have hn:=send_n hR.one h8
    have e:z2_ xs F (k+1)=(c,max pp (x.n+1)):=by rw[hS];unfold leastS;simp[hre,h8]
    have e1:(z2_ xs F (k+1)).1=c:=by rw[e]
    have e2:(z2_ xs F (k+1)).2=max pp (x.n+1):=by rw[e]
    repeat' (first|refine Ctl.h ?_ |((with_reducible intro hif);first |(focus (cases hif;done)) |((try simp only[JH]at hif);try exact hy_)) |((with_reducible first|apply J22 yk_ za_|apply J23 fol yk_ za_|apply J24);(·rfl);(· (simp only[push_cast,↓JP,Nat.reduceAdd,Nat.reduceEqDiff,Nat.reduceLT,Nat.reduceMul,Nat.reduceLeDiff,reduceCtorEq,reduceIte,↓JK,↓JF,cLst,ftsS,hX,inN,inR,hkl,hre,h8];rfl));(try kernel_rfl);try exact k16_)|fail)
    refine At.nextPick [0,1,2,3,4,5] (k+1) ?_ rfl rfl rfl ?_ rfl ?_ ?_ ?_ rfl
    ·exact⟨hkl,by omega⟩
    ·exact k90_
    ·exact zl_
    ·exact k28_
    ·exact zl_
   ·by_cases h5:x.op=5
    ·cases q1:((z6_ F k).regs x.b.toNat).is_
     ·have e:z2_ xs F (k+1)=(max c (0+1),pp):=by rw[hS];unfold leastS;simp[hre,h5,q1,lstN]
      have e1:(z2_ xs F (k+1)).1=max c (0+1):=by rw[e]
      have e2:(z2_ xs F (k+1)).2=pp:=by rw[e]
      repeat' (first|refine Ctl.h ?_ |((with_reducible intro hif);first |(focus (cases hif;done)) |((try simp only[JH]at hif);try exact hy_)) |((with_reducible first|apply J22 yk_ za_|apply J23 fol yk_ za_|apply J24);(·rfl);(· (simp only[push_cast,↓JP,Nat.reduceAdd,Nat.reduceEqDiff,Nat.reduceLT,Nat.reduceMul,Nat.reduceLeDiff,reduceCtorEq,reduceIte,↓JK,↓JF,cLst,ftsS,hX,inN,inR,hkl,hre,h5,q1];rfl));(try kernel_rfl);try exact k16_)|fail)
      refine At.nextPick [0,1,2,3,4,5] (k+1) ?_ rfl rfl rfl ?_ rfl ?_ ?_ ?_ rfl
      ·exact⟨hkl,by omega⟩
      ·exact k90_
      ·exact zl_
      ·exact k28_
      ·exact zl_
     ·by_cases q2:((z6_ F k).regs x.b.toNat).n < 0
      ·have e:z2_ xs F (k+1)=(max c (0+1),pp):=by rw[hS];unfold leastS;simp[hre,h5,q1,q2,lstN]
       have e1:(z2_ xs F (k+1)).1=max c (0+1):=by rw[e]
       have e2:(z2_ xs F (k+1)).2=pp:=by rw[e]
       repeat' (first|refine Ctl.h ?_ |((with_reducible intro hif);first |(focus (cases hif;done)) |((try simp only[JH]at hif);try exact hy_)) |((with_reducible first|apply J22 yk_ za_|apply J23 fol yk_ za_|apply J24);(·rfl);(· (simp only[push_cast,↓JP,Nat.reduceAdd,Nat.reduceEqDiff,Nat.reduceLT,Nat.reduceMul,Nat.reduceLeDiff,reduceCtorEq,reduceIte,↓JK,↓JF,cLst,ftsS,hX,inN,inR,hkl,hre,h5,q1,q2];rfl));(try kernel_rfl);try exact k16_)|fail)
       refine At.nextPick [0,1,2,3,4,5] (k+1) ?_ rfl rfl rfl ?_ rfl ?_ ?_ ?_ rfl
       ·exact⟨hkl,by omega⟩
       ·exact k90_
       ·exact zl_
       ·exact k28_
       ·exact zl_
      ·by_cases q3:1024≤((z6_ F k).regs x.b.toNat).n
       ·have e:z2_ xs F (k+1)=(max c (0+1),pp):=by rw[hS];unfold leastS;simp[hre,h5,q1,q2,q3,lstN]
        have e1:(z2_ xs F (k+1)).1=max c (0+1):=by rw[e]
        have e2:(z2_ xs F (k+1)).2=pp:=by rw[e]
        repeat' (first|refine Ctl.h ?_ |((with_reducible intro hif);first |(focus (cases hif;done)) |((try simp only[JH]at hif);try exact hy_)) |((with_reducible first|apply J22 yk_ za_|apply J23 fol yk_ za_|apply J24);(·rfl);(· exact k91_);(try kernel_rfl);try exact k16_)|fail)
        refine At.nextPick [0,1,2,3,4,5] (k+1) ?_ rfl rfl rfl ?_ rfl ?_ ?_ ?_ rfl
        ·exact⟨hkl,by omega⟩
        ·exact k90_
        ·exact zl_
        ·exact k28_
        ·exact zl_
       ·have e:z2_ xs F (k+1)=(max c (((z6_ F k).regs x.b.toNat).n+1),pp):=by rw[hS];unfold leastS;simp[hre,h5,q1,q2,q3,lstN]
        have e1:(z2_ xs F (k+1)).1=max c (((z6_ F k).regs x.b.toNat).n+1):=by rw[e]
        have e2:(z2_ xs F (k+1)).2=pp:=by rw[e]
        repeat' (first|refine Ctl.h ?_ |((with_reducible intro hif);first |(focus (cases hif;done)) |((try simp only[JH]at hif);try exact hy_)) |((with_reducible first|apply J22 yk_ za_|apply J23 fol yk_ za_|apply J24);(·rfl);(· exact k91_);(try kernel_rfl);try exact k16_)|fail)
        refine At.nextPick [0,1,2,3,4,5] (k+1) ?_ rfl rfl rfl ?_ rfl ?_ ?_ ?_ rfl
        ·exact⟨hkl,by omega⟩
        ·exact k90_
        ·exact zl_
        ·exact k28_
        ·exact zl_
    ·by_cases h6:x.op=6
     ·cases q1:((z6_ F k).regs x.b.toNat).is_
      ·have e:z2_ xs F (k+1)=(max c (0+1),pp):=by rw[hS];unfold leastS;simp[hre,h6,q1,lstN]
       have e1:(z2_ xs F (k+1)).1=max c (0+1):=by rw[e]
       have e2:(z2_ xs F (k+1)).2=pp:=by rw[e]
       repeat' (first|refine Ctl.h ?_ |((with_reducible intro hif);first |(focus (cases hif;done)) |((try simp only[JH]at hif);try exact hy_)) |((with_reducible first|apply J22 yk_ za_|apply J23 fol yk_ za_|apply J24);(·rfl);(· (simp only[push_cast,↓JP,Nat.reduceAdd,Nat.reduceEqDiff,Nat.reduceLT,Nat.reduceMul,Nat.reduceLeDiff,reduceCtorEq,reduceIte,↓JK,↓JF,cLst,ftsS,hX,inN,inR,hkl,hre,h6,q1];rfl));(try kernel_rfl);try exact k16_)|fail)
       refine At.nextPick [0,1,2,3,4,5] (k+1) ?_ rfl rfl rfl ?_ rfl ?_ ?_ ?_ rfl
       ·exact⟨hkl,by omega⟩
       ·exact k90_
       ·exact zl_
       ·exact k28_
       ·exact zl_
      ·by_cases q2:((z6_ F k).regs x.b.toNat).n < 0
       ·have e:z2_ xs F (k+1)=(max c (0+1),pp):=by rw[hS];unfold leastS;simp[hre,h6,q1,q2,lstN]
        have e1:(z2_ xs F (k+1)).1=max c (0+1):=by rw[e]
        have e2:(z2_ xs F (k+1)).2=pp:=by rw[e]
        repeat' (first|refine Ctl.h ?_ |((with_reducible intro hif);first |(focus (cases hif;done)) |((try simp only[JH]at hif);try exact hy_)) |((with_reducible first|apply J22 yk_ za_|apply J23 fol yk_ za_|apply J24);(·rfl);(· (simp only[push_cast,↓JP,Nat.reduceAdd,Nat.reduceEqDiff,Nat.reduceLT,Nat.reduceMul,Nat.reduceLeDiff,reduceCtorEq,reduceIte,↓JK,↓JF,cLst,ftsS,hX,inN,inR,hkl,hre,h6,q1,q2];rfl));(try kernel_rfl);try exact k16_)|fail)
        refine At.nextPick [0,1,2,3,4,5] (k+1) ?_ rfl rfl rfl ?_ rfl ?_ ?_ ?_ rfl
        ·exact⟨hkl,by omega⟩
        ·exact k90_
        ·exact zl_
        ·exact k28_
        ·exact zl_
       ·by_cases q3:1024≤((z6_ F k).regs x.b.toNat).n
        ·have e:z2_ xs F (k+1)=(max c (0+1),pp):=by rw[hS];unfold leastS;simp[hre,h6,q1,q2,q3,lstN]
         have e1:(z2_ xs F (k+1)).1=max c (0+1):=by rw[e]
         have e2:(z2_ xs F (k+1)).2=pp:=by rw[e]
         repeat' (first|refine Ctl.h ?_ |((with_reducible intro hif);first |(focus (cases hif;done)) |((try simp only[JH]at hif);try exact hy_)) |((with_reducible first|apply J22 yk_ za_|apply J23 fol yk_ za_|apply J24);(·rfl);(· exact k92_);(try kernel_rfl);try exact k16_)|fail)
         refine At.nextPick [0,1,2,3,4,5] (k+1) ?_ rfl rfl rfl ?_ rfl ?_ ?_ ?_ rfl
         ·exact⟨hkl,by omega⟩
         ·exact k90_
         ·exact zl_
         ·exact k28_
         ·exact zl_
        ·have e:z2_ xs F (k+1)=(max c (((z6_ F k).regs x.b.toNat).n+1),pp):=by rw[hS];unfold leastS;simp[hre,h6,q1,q2,q3,lstN]
         have e1:(z2_ xs F (k+1)).1=max c (((z6_ F k).regs x.b.toNat).n+1):=by rw[e]
         have e2:(z2_ xs F (k+1)).2=pp:=by rw[e]
         repeat' (first|refine Ctl.h ?_ |((with_reducible intro hif);first |(focus (cases hif;done)) |((try simp only[JH]at hif);try exact hy_)) |((with_reducible first|apply J22 yk_ za_|apply J23 fol yk_ za_|apply J24);(·rfl);(· exact k92_);(try kernel_rfl);try exact k16_)|fail)
         refine At.nextPick [0,1,2,3,4,5] (k+1) ?_ rfl rfl rfl ?_ rfl ?_ ?_ ?_ rfl
         ·exact⟨hkl,by omega⟩
         ·exact k90_
         ·exact zl_
         ·exact k28_
         ·exact zl_
     ·have e:z2_ xs F (k+1)=(c,pp):=by rw[hS];unfold leastS;simp[hre,h8,h5,h6]
      have e1:(z2_ xs F (k+1)).1=c:=by rw[e]
      have e2:(z2_ xs F (k+1)).2=pp:=by rw[e]
      repeat' (first|refine Ctl.h ?_ |((with_reducible intro hif);first |(focus (cases hif;done)) |((try simp only[JH]at hif);try exact hy_)) |((with_reducible first|apply J22 yk_ za_|apply J23 fol yk_ za_|apply J24);(·rfl);(· (simp only[push_cast,↓JP,Nat.reduceAdd,Nat.reduceEqDiff,Nat.reduceLT,Nat.reduceMul,Nat.reduceLeDiff,reduceCtorEq,reduceIte,↓JK,↓JF,cLst,ftsS,hX,inN,inR,hkl,hre,h8,h5,h6];rfl));(try kernel_rfl);try exact k16_)|fail)
      refine At.nextPick [0,1,2,3,4,5] (k+1) ?_ rfl rfl rfl ?_ rfl ?_ ?_ ?_ rfl
      ·exact⟨hkl,by omega⟩
      ·exact k90_
      ·exact zl_
      ·exact k28_
      ·exact zl_
 ·obtain rfl:k=xs.length:=by omega
  repeat' (first|refine Ctl.h ?_ |((with_reducible intro hif);first |(focus (cases hif;done)) |((try simp only[JH]at hif);try exact hy_)) |((with_reducible first|apply J22 yk_ za_|apply J23 fol yk_ za_|apply J24);(·rfl);(· (simp only[push_cast,↓JP,Nat.reduceAdd,Nat.reduceEqDiff,Nat.reduceLT,Nat.reduceMul,Nat.reduceLeDiff,reduceCtorEq,reduceIte,↓JK,↓JF,cLst,ftsS,inN,inR];rfl));(try kernel_rfl);try exact k16_)|fail)
  apply At.endsRet za_ (fn:=Try.f20) (rs:=[.cell 2 31,.tmp 3]) Anc.refl hro (lb_ rfl) rfl
  ·exact k62_
  ·exact k4_
  ·exact k5_
  ·rfl
  ·exact zl_
  ·exact k7_
  ·exact fun β=>rfl
  ·exact zl_
def sLeast:Spec:=fun args h m=>match args with
 | [v1]=>match srcV h 5 (.tup []) v1 with
  | some (c1,n1,f1,r1)=>some (c1∧(∀q,q < n1→isIns (f1 q)=true)∧((∀x∈(ls zg_ n1 f1),x.ok))∧((z7_ (ls zg_ n1 f1)).2=0),.tup [.agg [.int .i64 (z2_ (ls zg_ n1 f1) (z1_ (ls zg_ n1 f1)) (ls zg_ n1 f1).length).1,.int .i64 (z2_ (ls zg_ n1 f1) (z1_ (ls zg_ n1 f1)) (ls zg_ n1 f1).length).2,.int .i64 1],.int .i64 0],r1,[])
  | _=>none
 | _=>none
theorem sLeast_ok:zs_ Try.prog 20 sLeast:=by
 refine⟨zp_ (by kernel_rfl),fun args h m c v rd wr hs hm hc w0 M β h' w R hrd hwr hst=>?_⟩
 unfold sLeast at hs
 split at hs
 ·rename_i v1
  split at hs
  ·rename_i c1 n1 f1 r1 a1
   simp only[Option.some.injEq,Prod.mk.injEq]at hs
   obtain⟨rfl,rfl,rfl,rfl⟩:=hs
   obtain⟨k1,g1,y1,y2⟩:=hc
   obtain⟨A1,p1,d1,e1,t1⟩:=yn_ R a1 k1 (fun i hi=>hrd i hi) (by omega)
   refine callRo (views:=[⟨5,(ls zg_ n1 f1).length,prS (ls zg_ n1 f1),A1,p1⟩]) (Least_lit (ls zg_ n1 f1) p1 y1 y2) ?_ R hm hwr ?_ ?_ ?_
   ·exact d16_
   ·exact d17_
   ·exact zl_
   ·exact zl_
  ·cases hs
 ·cases hs
end Go.Proofs.Ytmljmabbopkpiaa.Vm
end
end

import Derived.Test.YtjliakjbdcplcaaU1
import Derived.Test.YtjliakjbdcplcaaU34
set_option linter.unusedSimpArgs false
set_option linter.unusedVariables false
set_option maxRecDepth 100000
set_option maxHeartbeats 4000000
section
namespace Go.Proofs.Ytjliakjbdcplcaa.Vm
open Go.RowKit
attribute [local push_cast] eqB eqBL allB
def edgesE (h:HM)(m a b:Nat):Option Eff:=match (h a).val,(h b).val with
 | some (.sl z i [] 5 0 n (some p)),some (.int .i64 x)=>match (h i).val with
  | some (.arr n' 5 f)=>bif Nat.beq n n' && (h z).born then
    some (0≤x∧x.toNat < n∧n≤1000000∧(∀q,q < n→isIns (f q)=true)∧((ls zg_ n f).getD x.toNat ⟨0,0,0,0,0⟩).ok,
     .sl m m [] 1 0 (yg_ ((ls zg_ n f).getD x.toNat ⟨0,0,0,0,0⟩) x).length none,[a,b,i,z],
     [(m,.own 3 (.arr (yg_ ((ls zg_ n f).getD x.toNat ⟨0,0,0,0,0⟩) x).length 1 (i64S (yg_ ((ls zg_ n f).getD x.toNat ⟨0,0,0,0,0⟩) x))) false)])else none
  | _=>none
 | _,_=>none
theorem i64S_ren (ρ : Nat→Nat)(xs:List Int):(fun q=>(i64S xs q).ren ρ)=i64S xs:=by
 funext q;unfold i64S;simp only[SV.ren]
theorem arr_cl {β : Env}{n k:Nat}{f g:Nat→SV}(h:∀q,q < n→(f q).cl β =(g q).cl β):(SV.arr n k f).cl β =(SV.arr n k g).cl β :=  d3_
theorem edges_call {f:FuncId}{args:List SV}{w0 w:World}{M:Nat→Prop}{β : Env}{h h':HM}{m a b:Nat}{c:Prop}{v:SV}{rd:List Nat}{wr:List (Nat×HB)}
  (he:edgesE h m a b=some (c,v,rd,wr)) (hc:c) (hm:∀i,m≤i→h i=.dead) (R:Rep w0 M β h' w) (hrd:∀i∈rd,h' i=h i) (hwr:∀p∈wr,h' p.1=h p.1)
  (vals:List SV) (hvals:vals=renL (y6_ [0,0,0,a,b] m) args) (hst:∀hh,(∀i,i < 5→(hh i).born=true)→zd_ hh args)
  (hren:∀ρ ρ':Nat→Nat,ρ 0 = ρ' 0→ρ 3 = ρ' 3→ρ 4 = ρ' 4→renL ρ args=renL ρ' args)
  (H:∀(xs:List Ins) (i:Int) (_:0≤i) (_:i.toNat < xs.length) (_:xs.length≤1000000) (cap:Nat) (x:Ins) (_:x.ok) (_:xs.getD i.toNat ⟨0,0,0,0,0⟩=x),yc_ Try.prog f args
   [.gone,.gone,.ro (.arr xs.length 5 (prS xs)),.ro (.sl 1 2 [] 5 0 xs.length (some cap)),.ro (.int .i64 i)]
   (.sl 5 5 [] 1 0 (yg_ x i).length none) [.gone,.gone,.gone,.gone,.gone,.own 3 (.arr (yg_ x i).length 1 (i64S (yg_ x i))) false]) :
  Calls Try.prog f (denL β vals).toArray w fun e w'=>∃β',(∀i,(h' i).born=true→β i = β' i)∧Rep w0 M β' (wrs h' wr) w'∧Stable (wrs h' wr) v∧e=.returned (v.den β'):=by
 unfold edgesE at he
 split at he
 ·rename_i z i n p x ha hb
  split at he
  ·rename_i n' g hi
   obtain⟨hbz,he2⟩:=zj_ he
   clear he
   simp only[Bool.and_eq_true]at hbz
   obtain⟨hn,hz⟩:=hbz
   have hn:=Nat.eq_of_beq_eq_true hn
   subst hn
   simp only[Option.some.injEq,Prod.mk.injEq]at he2
   obtain⟨rfl,rfl,rfl,rfl⟩:=he2
   obtain⟨h0,h1,h2,h3,h4⟩:=hc
   have ea:h' a=h a:=hrd a (by simp)
   have eb:h' b=h b:=hrd b (by simp)
   have ei:h' i=h i:=hrd i (by simp)
   have ez:h' z=h z:=hrd z (by simp)
   have H1:=H (ls zg_ n g) x h0 (by rw[zb_];exact h1) (by rw[zb_];exact h2) p _ h4 rfl
   have hlen:(ls zg_ n g).length=n:=zb_ ..
   have hfit:FitL (y6_ [0,z,i,a,b] m) h' [.gone,.gone,.ro (.arr (ls zg_ n g).length 5 (prS (ls zg_ n g))),.ro (.sl 1 2 [] 5 0 (ls zg_ n g).length (some p)),.ro (.int .i64 x)] [0,z,i,a,b]:=by
    have born:∀{j u},(h j).val=some u→(h j).born=true:=fun {j u} hj=>by
     cases hh:h j<;>rw[hh]at hj<;>first|rfl |(cases hj;done)
    refine⟨.gone ?_,.gone (by rw[ez];exact hz),.ro (u:=.arr n 5 g) (by rw[ei];exact hi) (fun β=>?_) (fun n1 k1 f1 e=>?_),.ro (u:=.sl z i [] 5 0 n (some p)) (by rw[ea];exact ha) (fun β=>?_) (fun n1 k1 f1 e=>?_),.ro (u:=.int .i64 x) (by rw[eb];exact hb) (fun β=>rfl) (fun n1 k1 f1 e=>?_),trivial⟩
    ·rw[R.nil0];rfl
    ·simp only[SV.ren,prS_ren,hlen]
     refine arr_cl fun q hq=>?_
     rw[isIns_cl (h3 q hq)]
     unfold prS
     rw[isIns_cl (zy_ _),zv_]
     congr 1
     simp[ls,hq]
    ·simp only[SV.ren,hlen,SV.arr.injEq]at e
     obtain⟨rfl,rfl,_⟩:=e
     exact⟨_,rfl⟩
    ·simp[SV.ren,y6_,hlen]
    ·simp[SV.ren]at e
    ·simp[SV.ren]at e
   subst hvals
   rw[hren (y6_ [0,0,0,a,b] m) (y6_ [0,z,i,a,b] m) (by simp[y6_]) (by simp[y6_]) (by simp[y6_])]
   have C:=callG (L1:=[.gone,.gone,.gone,.gone,.gone,.own 3 (.arr (yg_ ((ls zg_ n g).getD x.toNat ⟨0,0,0,0,0⟩) x).length 1 (i64S (yg_ ((ls zg_ n g).getD x.toNat ⟨0,0,0,0,0⟩) x))) false]) (h:=h) (m:=m) [0,z,i,a,b] H1 R rfl (by simp) rfl rfl rfl hfit hm (by simpa [newB,y6_]using hwr) (by simp)
    (by simp[yk_,HB.stable,Stable,hp,HB.born,i64S_stable,prS_stable])
    (hst _ (by intro i hi;rcases i with _|_|_|_|_|i<;>first|rfl|omega))
    (by simp[NewL,HB.stable,Stable,HB.isRo,i64S_stable])
    (by simp[Stable,hG,hp,HB.born])
   refine C.mono fun e w' he=>?_
   simpa [newB,y6_,HB.ren,SV.ren,i64S_ren]using he
  ·cases he
 ·cases he
theorem edges_lit (n p:Nat)(x:Int):yc_ Try.prog 70 [.sl 1 2 [] 5 0 n (some p),.int .i64 x] [.gone,.gone,.gone] (.fn 101 [.ptr 3 [],.ptr 4 []]) [.gone,.gone,.gone,.own 35 (.sl 1 2 [] 5 0 n (some p)) true,.own 3 (.int .i64 x) true]:=by
 refine zm_ (fn:=Try.f70) 3 6 0 rfl rfl rfl rfl rfl u10_ rfl fun w0 M E hro=>?_
 repeat' (first|refine Ctl.h ?_ |((with_reducible intro hif);first |(focus (cases hif;done)) |((try simp only[JH]at hif);try exact hy_)) |((with_reducible first|apply J22 zl_ za_|apply J23 fol zl_ za_|apply J24);(·rfl);(· exact k80_);(try kernel_rfl);try exact z9_)|fail)
 apply At.endsRet za_ (fn:=Try.f70) (rs:=[.tmp 4]) Anc.refl hro (lb_ rfl) rfl
 ·exact k76_
 ·exact k6_
 ·exact k7_
 ·rfl
 ·exact k77_
 ·exact k9_
 ·exact fun β=>rfl
 ·exact k77_
def sEdges:yr_:=fun args h m=>match args with
 | [.sl z i [] 5 0 n (some p),.int .i64 x]=>bif (h z).born && (h i).born then some (True,.fn 101 [.ptr m [],.ptr (m+1) []],[z,i],[(m,.own 35 (.sl z i [] 5 0 n (some p)) true),(m+1,.own 3 (.int .i64 x) true)])else none
 | _=>none
theorem sEdges_ok:zh_ Try.prog 70 sEdges:=by
 refine⟨zf_ (by kernel_rfl),fun args h m c v rd wr hs hm hc w0 M β h' w R hrd hwr hst=>?_⟩
 unfold sEdges at hs
 split at hs
 ·rename_i z i n p x
  obtain⟨hb,hs2⟩:=zj_ hs
  clear hs
  simp only[Bool.and_eq_true]at hb
  obtain⟨hz,hi⟩:=hb
  simp only[Option.some.injEq,Prod.mk.injEq]at hs2
  obtain⟨rfl,rfl,rfl,rfl⟩:=hs2
  have ei:h' i=h i:=hrd i (by simp)
  have ez:h' z=h z:=hrd z (by simp)
  have C:=callG (L1:=[.gone,.gone,.gone,.own 35 (.sl 1 2 [] 5 0 n (some p)) true,.own 3 (.int .i64 x) true]) (h:=h) (m:=m) [0,z,i] (edges_lit n p x) R rfl (by simp) rfl rfl rfl
   ⟨.gone (by rw[R.nil0];rfl),.gone (by rw[ez];exact hz),.gone (by rw[ei];exact hi),trivial⟩ hm (by simpa [newB,y6_]using hwr) (by simp)
   (by simp[yk_,HB.stable]) (by simp[zd_,Stable,hp,HB.born]) (by simp[NewL,HB.stable,Stable,HB.isRo,hG,hp,HB.born]) (by simp[Stable,zd_,hG,hp,HB.born])
  have e0:renL (y6_ [0,z,i] m) [SV.sl 1 2 [] 5 0 n (some p),.int .i64 x]=[.sl z i [] 5 0 n (some p),.int .i64 x]:=by simp[renL,SV.ren,y6_]
  rw[e0]at C
  refine C.mono fun e w' he=>?_
  simpa [newB,y6_,HB.ren,SV.ren,renL]using he
 ·cases hs
def sAps:yr_:=fun args h m=>match args with
 | [.sl 0 0 [] 0 0 0 (some 0),.fn 101 [.ptr a [],.ptr b []]]=>edgesE h m a b
 | _=>none
theorem sAps_ok:zh_ Try.prog 100 sAps:=by
 refine⟨zf_ (by kernel_rfl),fun args h m c v rd wr hs hm hc w0 M β h' w R hrd hwr hst=>?_⟩
 unfold sAps at hs
 split at hs
 ·rename_i a b
  refine edges_call hs hc hm R hrd hwr _ (args:=[.sl 0 0 [] 0 0 0 (some 0),.fn 101 [.ptr 3 [],.ptr 4 []]]) ?_ ?_ ?_ appSeq_lit
  ·simp[renL,SV.ren,y6_]
  ·intro hh hb
   have b0:=hb 0 (by omega)
   have b3:=hb 3 (by omega)
   have b4:=hb 4 (by omega)
   simp[zd_,Stable,b0,b3,b4]
  ·intro ρ ρ' e0 e3 e4
   simp only[renL,SV.ren,e0,e3,e4]
 ·cases hs
def cAps:FuncId→Option yr_:=xb_ [(100,sAps)]
theorem cAps_ok:∀f S,cAps f=some S→zh_ Try.prog f S:=zn_ ⟨sAps_ok,trivial⟩
theorem collect_lit (xs:List Ins)(i:Int)(hi:0≤i)(hn:i.toNat < xs.length)(hl:xs.length≤1000000)(cap:Nat)(x:Ins)(hok:x.ok)(hX:xs.getD i.toNat ⟨0,0,0,0,0⟩=x):yc_ Try.prog 69 [.fn 101 [.ptr 3 [],.ptr 4 []]]
  [.gone,.gone,.ro (.arr xs.length 5 (prS xs)),.ro (.sl 1 2 [] 5 0 xs.length (some cap)),.ro (.int .i64 i)]
  (.sl 5 5 [] 1 0 (yg_ x i).length none) [.gone,.gone,.gone,.gone,.gone,.own 3 (.arr (yg_ x i).length 1 (i64S (yg_ x i))) false]:=by
 refine zm_ (fn:=Try.f69) 5 5 0 rfl rfl rfl rfl rfl u10_ rfl fun w0 M E hro=>?_
 repeat' (first|refine Ctl.h ?_ |((with_reducible intro hif);first |(focus (cases hif;done)) |((try simp only[JH]at hif);try exact hy_)) |((with_reducible first|apply J22 cAps_ok za_|apply J23 fol cAps_ok za_|apply J24);(·rfl);(· (simp only[push_cast,↓JP,Nat.reduceAdd,Nat.reduceEqDiff,Nat.reduceLT,Nat.reduceMul,Nat.reduceLeDiff,reduceCtorEq,reduceIte,cAps,sAps,edgesE,ls_prS,ls_prS',HB.val];rfl));(try kernel_rfl);(try (focus (first|exact True.intro |((try simp only[JS,implies_true,forall_const,z3_,z5_,kndOf]);(first|exact⟨hi,hn,hl,fun q _=>rfl,by rw[hX];exact hok⟩ |(repeat' (first|assumption|exact True.intro|omega|apply And.intro)));done)))))|fail)
 rw[hX]
 apply At.endsRet za_ (fn:=Try.f69) (rs:=[.tmp 2]) Anc.refl hro (lb_ rfl) rfl
 ·exact k76_
 ·exact k6_
 ·exact k7_
 ·rfl
 ·exact k77_
 ·exact k9_
 ·exact fun β=>rfl
 ·exact k77_
def sCollect:yr_:=fun args h m=>match args with
 | [.fn 101 [.ptr a [],.ptr b []]]=>edgesE h m a b
 | _=>none
theorem sCollect_ok:zh_ Try.prog 69 sCollect:=by
 refine⟨zf_ (by kernel_rfl),fun args h m c v rd wr hs hm hc w0 M β h' w R hrd hwr hst=>?_⟩
 unfold sCollect at hs
 split at hs
 ·rename_i a b
  refine edges_call hs hc hm R hrd hwr _ (args:=[.fn 101 [.ptr 3 [],.ptr 4 []]]) ?_ ?_ ?_ collect_lit
  ·simp[renL,SV.ren,y6_]
  ·intro hh hb
   have b3:=hb 3 (by omega)
   have b4:=hb 4 (by omega)
   simp[zd_,Stable,b3,b4]
  ·intro ρ ρ' e0 e3 e4
   simp only[renL,SV.ren,e3,e4]
 ·cases hs
def cNext:FuncId→Option yr_:=xb_ [(68,sRight),(70,sEdges),(69,sCollect)]
theorem cNext_ok:∀f S,cNext f=some S→zh_ Try.prog f S:=zn_ ⟨sRight_ok,sEdges_ok,sCollect_ok,trivial⟩
def nextE (p:List Ins)(i:Int):Int:=if rightI p≠0 then rightI p else if i < 0∨(p.length:Int)≤i then 2 else 0
def nextL (p:List Ins)(i:Int):List Int:=if nextE p i≠0 then [] else yg_ (p.getD i.toNat ⟨0,0,0,0,0⟩) i
theorem next_lit (xs:List Ins)(p1:Nat)(x2:Int)(hx:∀x∈xs,x.ok)(hl:xs.length≤1000000):yc_ Try.prog 39 [.sl 1 2 [] 5 0 xs.length (some p1),.int .i64 x2] [.gone,.gone,.ro (.arr xs.length 5 (prS xs))]
  (.tup [.sl 3 3 [] 1 0 (nextL xs x2).length none,.int .i64 (nextE xs x2)]) [.gone,.gone,.gone,.own 3 (.arr (nextL xs x2).length 1 (i64S (nextL xs x2))) false]:=by
 refine zm_ (fn:=Try.f39) 3 24 0 rfl rfl rfl rfl rfl u10_ rfl fun w0 M E hro=>?_
 by_cases h1:rightI xs=0
 ·by_cases h2:x2 < 0
  ·have e1:nextE xs x2=2:=by simp[nextE,h1,h2]
   have e2:nextL xs x2=[]:=by simp[nextL,e1]
   rw[e1,e2]
   repeat' (first|refine Ctl.h ?_ |((with_reducible intro hif);first |(focus (cases hif;done)) |((try simp only[JH]at hif);try exact hy_)) |((with_reducible first|apply J22 cNext_ok za_|apply J23 fol cNext_ok za_|apply J24);(·rfl);(· (simp only[push_cast,↓JP,Nat.reduceAdd,Nat.reduceEqDiff,Nat.reduceLT,Nat.reduceMul,Nat.reduceLeDiff,reduceCtorEq,reduceIte,cNext,sRight,ls_prS,ls_prS',h1,h2];rfl));(try kernel_rfl);try exact k151_)|fail)
   refine At.nil 4 3 1 (i64S []) rfl (fun h q=>i64S_stable q) ?_
   apply At.endsPick [0,1,2,3] za_ (fn:=Try.f39) (rs:=[.tmp 4,.tmp 5]) Anc.refl hro (lb_ rfl) rfl
   ·exact k76_
   ·exact yq_
   ·rfl
   ·rfl
   ·rfl
   ·exact k135_
   ·rfl
   ·exact k77_
   ·exact k9_
   ·exact fun β=>rfl
   ·exact k77_
  ·by_cases h3:(xs.length:Int)≤x2
   ·have e1:nextE xs x2=2:=by simp[nextE,h1,h2,h3]
    have e2:nextL xs x2=[]:=by simp[nextL,e1]
    rw[e1,e2]
    repeat' (first|refine Ctl.h ?_ |((with_reducible intro hif);first |(focus (cases hif;done)) |((try simp only[JH]at hif);try exact hy_)) |((with_reducible first|apply J22 cNext_ok za_|apply J23 fol cNext_ok za_|apply J24);(·rfl);(· (simp only[push_cast,↓JP,Nat.reduceAdd,Nat.reduceEqDiff,Nat.reduceLT,Nat.reduceMul,Nat.reduceLeDiff,reduceCtorEq,reduceIte,cNext,sRight,ls_prS,ls_prS',h1,h2,h3];rfl));(try kernel_rfl);try exact k151_)|fail)
    refine At.nil 4 3 1 (i64S []) rfl (fun h q=>i64S_stable q) ?_
    apply At.endsPick [0,1,2,3] za_ (fn:=Try.f39) (rs:=[.tmp 4,.tmp 5]) Anc.refl hro (lb_ rfl) rfl
    ·exact k76_
    ·exact yq_
    ·rfl
    ·rfl
    ·rfl
    ·exact k135_
    ·rfl
    ·exact k77_
    ·exact k9_
    ·exact fun β=>rfl
    ·exact k77_
   ·have e1:nextE xs x2=0:=by simp[nextE,h1,h2,h3]
    have e2:nextL xs x2=yg_ (xs.getD x2.toNat ⟨0,0,0,0,0⟩) x2:=by simp[nextL,e1]
    rw[e1,e2]
    have hxk:(xs.getD x2.toNat ⟨0,0,0,0,0⟩).ok:=by
     have hk:x2.toNat < xs.length:=by omega
     simp only[List.getD_eq_getElem?_getD,List.getElem?_eq_getElem hk,Option.getD_some]
     exact hx _ (List.getElem_mem hk)
    repeat' (first|refine Ctl.h ?_ |((with_reducible intro hif);first |(focus (cases hif;done)) |((try simp only[JH]at hif);try exact hy_)) |((with_reducible first|apply J22 cNext_ok za_|apply J23 fol cNext_ok za_|apply J24);(·rfl);(· (simp only[push_cast,↓JP,Nat.reduceAdd,Nat.reduceEqDiff,Nat.reduceLT,Nat.reduceMul,Nat.reduceLeDiff,reduceCtorEq,reduceIte,cNext,sRight,sEdges,sCollect,edgesE,ls_prS,ls_prS',HB.val,h1,h2,h3];rfl));(try kernel_rfl);try exact k151_)|fail)
    apply At.endsPick [0,1,2,5] za_ (fn:=Try.f39) (rs:=[.tmp 4,.tmp 5]) Anc.refl hro (lb_ rfl) rfl
    ·exact k76_
    ·exact yq_
    ·rfl
    ·rfl
    ·rfl
    ·(repeat' (first|exact trivial|exact .inl rfl|exact .inr (.same _)|exact .inr .loose|exact .inr (.arr (by assumption))|apply And.intro|exact .inr (.arr fun q hq=>rfl)))
    ·rfl
    ·exact k77_
    ·exact k9_
    ·exact fun β=>rfl
    ·exact k77_
 ·have e1:nextE xs x2=rightI xs:=by simp[nextE,h1]
  have e2:nextL xs x2=[]:=by simp[nextL,e1,h1]
  rw[e1,e2]
  repeat' (first|refine Ctl.h ?_ |((with_reducible intro hif);first |(focus (cases hif;done)) |((try simp only[JH]at hif);try exact hy_)) |((with_reducible first|apply J22 cNext_ok za_|apply J23 fol cNext_ok za_|apply J24);(·rfl);(· (simp only[push_cast,↓JP,Nat.reduceAdd,Nat.reduceEqDiff,Nat.reduceLT,Nat.reduceMul,Nat.reduceLeDiff,reduceCtorEq,reduceIte,cNext,sRight,ls_prS,ls_prS',h1];rfl));(try kernel_rfl);try exact k151_)|fail)
  refine At.nil 4 3 1 (i64S []) rfl (fun h q=>i64S_stable q) ?_
  apply At.endsPick [0,1,2,3] za_ (fn:=Try.f39) (rs:=[.tmp 4,.tmp 5]) Anc.refl hro (lb_ rfl) rfl
  ·exact k76_
  ·exact yq_
  ·rfl
  ·rfl
  ·rfl
  ·exact k135_
  ·rfl
  ·exact k77_
  ·exact k9_
  ·exact fun β=>rfl
  ·exact k77_
def sNext:yr_:=fun args h m=>match args with
 | [v1,v2]=>match srcV h 5 (.tup []) v1 with
  | some (c1,n1,f1,r1)=>bif isI .i64 v2 then some (c1∧(∀q,q < n1→isIns (f1 q)=true)∧((∀x∈(ls zg_ n1 f1),x.ok))∧(n1≤1000000),.tup [.sl m m [] 1 0 (nextL (ls zg_ n1 f1) (iOf v2)).length none,.int .i64 (nextE (ls zg_ n1 f1) (iOf v2))],r1,[(m,.own 3 (.arr (nextL (ls zg_ n1 f1) (iOf v2)).length 1 (i64S (nextL (ls zg_ n1 f1) (iOf v2)))) false)])else none
  | _=>none
 | _=>none
theorem sNext_ok:zh_ Try.prog 39 sNext:=by
 refine⟨zf_ (by kernel_rfl),fun args h m c v rd wr hs hm hc w0 M β h' w R hrd hwr hst=>?_⟩
 unfold sNext at hs
 split at hs
 ·rename_i v1 v2
  split at hs
  ·rename_i c1 n1 f1 r1 a1
   obtain⟨hb,hs⟩:=zj_ hs
   simp only[Option.some.injEq,Prod.mk.injEq]at hs
   obtain⟨rfl,rfl,rfl,rfl⟩:=hs
   have b2:=hb
   obtain⟨k1,g1,y1,y2⟩:=hc
   obtain⟨A1,p1,d1,e1,t1⟩:=zk_ R a1 k1 (fun i hi=>hrd i hi) (by omega)
   refine y9_ (views:=[⟨5,(ls zg_ n1 f1).length,prS (ls zg_ n1 f1),A1,p1⟩]) (next_lit (ls zg_ n1 f1) p1 (iOf v2) y1 (by rw[zb_];exact y2)) ?_ R hm hwr ?_ ?_ ?_
   ·exact d34_
   ·exact d32_
   ·exact k77_
   ·exact k77_
  ·cases hs
 ·cases hs
end Go.Proofs.Ytjliakjbdcplcaa.Vm
end

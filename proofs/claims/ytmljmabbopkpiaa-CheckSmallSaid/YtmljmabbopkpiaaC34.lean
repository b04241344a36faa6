import Derived.Test.YtmljmabbopkpiaaC1
import Derived.Test.YtmljmabbopkpiaaC7
import Derived.Test.YtmljmabbopkpiaaC8
import Derived.Test.YtmljmabbopkpiaaC23
import Derived.Test.YtmljmabbopkpiaaC30
import Derived.Test.YtmljmabbopkpiaaC31
import Derived.Test.YtmljmabbopkpiaaC33
import Derived.Test.YtmljmabbopkpiaaProg
set_option linter.unusedSimpArgs false
set_option linter.unusedVariables false
set_option maxRecDepth 100000
set_option maxHeartbeats 4000000
section
open Go.Proofs.Ytmljmabbopkpiaa.Vm Go.RowKit
attribute [local push_cast] eqB eqBL allB prS sndsS zw_ nav_ins xs_ xr_ xq_ xp_ xo_ nav_snd xn_ xm_ xl_ yo_ yi_ yv_ yq_ yz_ yy_ iOf nav_k nav_k0 nav_k1 nav_ka nav_kai nav_ft nav_ft0 nav_ft1 isKn_kS knOf_kS isKa_kaS kaOf_kaS isFt_ftS ftOf_ftS setp_ka setp_ftk setp_ftr setp_fti evm_ins evm_snd evm_k evm_ka evm_ft
section
namespace Go.Proofs.Ytmljmabbopkpiaa.Vm
open Go.RowKit
def cAw:FuncId→Option y4_:=xz_ [(35,sChk17),(20,sLeast),(34,sDoomed),(22,sWhy17),(21,sFactsR),(53,sEqZ)]
theorem cAw_ok:∀f S,cAw f=some S→zm_ Try.prog f S:=z0_ ⟨sChk17_ok,sLeast_ok,sDoomed_ok,sWhy17_ok,sFactsR_ok,sEqZ_ok,trivial⟩
theorem ls_1 {α : Type}(g:SV→α)(f:Nat→SV):ls g 1 f=[g (f 0)]:=rfl
theorem ls_3 {α : Type}(g:SV→α)(f:Nat→SV):ls g 3 f=[g (f 0),g (f 1),g (f 2)]:=rfl
theorem ls_4 {α : Type}(g:SV→α)(f:Nat→SV):ls g 4 f=[g (f 0),g (f 1),g (f 2),g (f 3)]:=rfl
theorem insOf_agg (a b c d e:SV):zd_ (.agg [a,b,c,d,e])=⟨iOf a,iOf b,iOf c,iOf d,iOf e⟩:=rfl
theorem ft_eqz (a:Ft):eqB (.struct [.bool,.arr 8 2 (.struct [.bool,.int .i64])]) (ftS a) (.agg [.bool false,.arr 8 2 fun _=>.agg [.bool false,.nat .i64 0]])=ftB a F0:=by
 rw[←ft_eq];rfl
theorem ft_shz:yc_ (.struct [.bool,.arr 8 2 (.struct [.bool,.int .i64])]) (.agg [.bool false,.arr 8 2 fun _=>.agg [.bool false,.nat .i64 0]])=True:=by
 simp[yc_,yf_,kndOf]
theorem lim_1:limB 5 0 1=true:=rfl
theorem lim_2:limB 6 0 1=true:=rfl
theorem lim_3:limB 0 0 1=true:=rfl
theorem lim_4:limB 0 2 4=true:=rfl
theorem lim_5:limB 0 3 4=true:=rfl
theorem all_1 {p:Nat→Prop}(h0:p 0):∀q,q < 1→p q:=fun q hq=>by
 obtain rfl:q=0:=by omega
 assumption
theorem all_3 {p:Nat→Prop}(h0:p 0)(h1:p 1)(h2:p 2):∀q,q < 3→p q:=fun q hq=>by
 rcases (show q=0∨q=1∨q=2 by omega)with rfl|rfl|rfl<;>assumption
theorem all_4 {p:Nat→Prop}(h0:p 0)(h1:p 1)(h2:p 2)(h3:p 3):∀q,q < 4→p q:=fun q hq=>by
 rcases (show q=0∨q=1∨q=2∨q=3 by omega)with rfl|rfl|rfl|rfl<;>assumption
theorem awake17_lit:zz_ Try.prog 18 [] [.gone] (.bool true) [.gone]:=by
 refine zf_ (fn:=Try.f18) 1 186 0 rfl rfl rfl rfl rfl (by simp only[zh_,zb_,hp]) rfl fun w0 M E hro=>?_
 repeat' (first|refine Ctl.h ?_ |((with_reducible intro hif);first |(focus (cases hif;done)) |((try simp only[JH]at hif);try exact hy_)) |((with_reducible first|apply J22 cAw_ok za_|apply J23 fol cAw_ok za_|apply J24);(·rfl);(· (simp only[push_cast,↓JP,Nat.reduceAdd,Nat.reduceEqDiff,Nat.reduceLT,Nat.reduceMul,Nat.reduceLeDiff,reduceCtorEq,reduceIte,↓JK,↓JF,cAw,sChk17,sLeast,sDoomed,doomE,sDoomN,sDoomS,sWhy17,sFactsR,sEqZ,ls_1,ls_3,ls_4,insOf_agg,p1_eq,p2_eq,p3_eq,p4_eq,p5_eq,p1_len,p2_len,p3_len,p4_len,p5_len,p1_chk,p2_chk,p3_chk,p4_chk,p5_chk,a1,a2,a3,a4,a5,a5',a6,a7,a8,a9,a10,a11,a12,y0_,inN,inR,lim_1,lim_2,lim_3,lim_4,lim_5,↓kn_eqZ,↓ft_eqz,List.isEmpty_nil,List.isEmpty_cons,↓ft_shz,eqL,Int.reduceAdd,Int.reduceEq,Int.reduceLE,Int.reduceLT,Int.reduceNeg,eq_self,List.getD_cons_zero,List.getD_cons_succ];rfl));(try kernel_rfl);(try (focus (first|exact True.intro |((first |((repeat' (first|exact True.intro|exact p1_ok|exact p2_ok|exact p3_ok|exact p4_ok|exact p5_ok|omega|exact all_1 rfl|exact all_3 rfl rfl rfl|exact all_4 rfl rfl rfl rfl|rfl|apply And.intro));done) |(simp only[push_cast,↓JP,Nat.reduceAdd,Nat.reduceEqDiff,Nat.reduceLT,Nat.reduceMul,Nat.reduceLeDiff,reduceCtorEq,reduceIte,↓JK,↓JF,cAw,sChk17,sLeast,sDoomed,doomE,sDoomN,sDoomS,sWhy17,sFactsR,sEqZ,ls_1,ls_3,ls_4,insOf_agg,p1_eq,p2_eq,p3_eq,p4_eq,p5_eq,p1_len,p2_len,p3_len,p4_len,p5_len,p1_chk,p2_chk,p3_chk,p4_chk,p5_chk,a1,a2,a3,a4,a5,a5',a6,a7,a8,a9,a10,a11,a12,y0_,inN,inR,lim_1,lim_2,lim_3,lim_4,lim_5,↓kn_eqZ,↓ft_eqz,List.isEmpty_nil,List.isEmpty_cons,↓ft_shz,eqL,Int.reduceAdd,Int.reduceEq,Int.reduceLE,Int.reduceLT,Int.reduceNeg,eq_self,List.getD_cons_zero,List.getD_cons_succ,and_self,implies_true,true_implies,forall_const,Bool.false_eq_true,false_implies];(repeat' (first|exact True.intro|exact p1_ok|exact p2_ok|exact p3_ok|exact p4_ok|exact p5_ok|omega|exact all_1 rfl|exact all_3 rfl rfl rfl|exact all_4 rfl rfl rfl rfl|rfl|apply And.intro))));done) |((try simp only[JS,implies_true,forall_const,yc_,yf_,kndOf,inN,inR]);(repeat' (first|assumption|exact True.intro|omega|apply And.intro));done)))))|fail)
 apply At.endsRet za_ (fn:=Try.f18) (rs:=[.tmp 0]) Anc.refl hro (lb_ rfl) rfl
 ·exact k3_
 ·exact k4_
 ·exact k5_
 ·rfl
 ·exact k6_
 ·exact k7_
 ·exact fun β=>rfl
 ·exact k6_
def sAwake17:y4_:=fun args h m=>match args with
 | []=>some (True,.bool true,[],[])
 | _=>none
theorem sAwake17_ok:zm_ Try.prog 18 sAwake17:=by
 refine⟨zg_ (by kernel_rfl),fun args h m c v rd wr hs hm hc w0 M β h' w R hrd hwr hst=>?_⟩
 unfold sAwake17 at hs
 split at hs
 ·simp only[Option.some.injEq,Prod.mk.injEq]at hs
  obtain⟨rfl,rfl,rfl,rfl⟩:=hs
  refine yb_ (views:=[]) awake17_lit ?_ R hm hwr ?_ ?_ ?_
  ·intro x hx;cases hx
  ·intro β1 hv
   rfl
  ·trivial
  ·trivial
 ·cases hs
theorem doomB_lit (xs:List Ins)(p1:Nat)(c p l:Int)(hx:∀x∈xs,x.ok)(hl:xs.length≤281474976710656)(hf:fitE xs c p l≠0):zz_ Try.prog 34 [.sl 1 2 [] 5 0 xs.length (some p1),.agg [.int .i64 c,.int .i64 p,.int .i64 l]] [.gone,.gone,.ro (.arr xs.length 5 (prS xs))]
  (.tup [.sl 0 0 [] 0 0 0 (some 0),.int .i64 (fitE xs c p l)]) [.gone]:=by
 refine zf_ (fn:=Try.f34) 3 25 0 rfl rfl rfl rfl rfl u3_ rfl fun w0 M E hro=>?_
 obtain⟨e,he⟩:∃e,fitE xs c p l=e:=⟨_,rfl⟩
 rw[he]at hf ⊢
 repeat' (first|refine Ctl.h ?_ |((with_reducible intro hif);first |(focus (cases hif;done)) |((try simp only[JH]at hif);try exact hy_)) |((with_reducible first|apply J22 zi_ za_|apply J23 fol zi_ za_|apply J24);(·rfl);(· exact k143_);(try kernel_rfl);try exact k20_)|fail)
 apply At.endsRet za_ (fn:=Try.f34) (rs:=[.tmp 4,.tmp 5]) Anc.refl hro (lb_ rfl) rfl
 ·exact k3_
 ·exact k4_
 ·exact k5_
 ·rfl
 ·exact k6_
 ·exact k7_
 ·exact fun β=>rfl
 ·exact k6_
theorem chkB_lit (xs:List Ins)(p1:Nat)(c p l:Int)(hx:∀x∈xs,x.ok)(hl:xs.length≤281474976710656)(hf:fitE xs c p l≠0):zz_ Try.prog 35 [.sl 1 2 [] 5 0 xs.length (some p1),.agg [.int .i64 c,.int .i64 p,.int .i64 l]] [.gone,.gone,.ro (.arr xs.length 5 (prS xs))]
  (.tup [.int .i64 (-1),.int .i64 (fitE xs c p l)]) [.gone]:=by
 refine zf_ (fn:=Try.f35) 3 24 0 rfl rfl rfl rfl rfl u3_ rfl fun w0 M E hro=>?_
 obtain⟨e,he⟩:∃e,fitE xs c p l=e:=⟨_,rfl⟩
 rw[he]at hf ⊢
 repeat' (first|refine Ctl.h ?_ |((with_reducible intro hif);first |(focus (cases hif;done)) |((try simp only[JH]at hif);try exact hy_)) |((with_reducible first|apply J22 zi_ za_|apply J23 fol zi_ za_|apply J24);(·rfl);(· exact k143_);(try kernel_rfl);try exact k20_)|fail)
 apply At.endsRet za_ (fn:=Try.f35) (rs:=[.cell 4 3,.cell 5 32]) Anc.refl hro (lb_ rfl) rfl
 ·exact k3_
 ·exact k4_
 ·exact k5_
 ·rfl
 ·exact k6_
 ·exact k7_
 ·exact fun β=>rfl
 ·exact k6_
theorem factsB_lit (xs:List Ins)(p1:Nat)(hx:∀x∈xs,x.ok)(hl:xs.length≤281474976710656)(hc:(zu_ xs).2≠0):zz_ Try.prog 21 [.sl 1 2 [] 5 0 xs.length (some p1)] [.gone,.gone,.ro (.arr xs.length 5 (prS xs))] (.tup [.sl 0 0 [] 0 0 0 (some 0),.int .i64 170]) [.gone]:=by
 refine zf_ (fn:=Try.f21) 3 15 0 rfl rfl rfl rfl rfl u3_ rfl fun w0 M E hro=>?_
 obtain⟨e,he⟩:∃e,(zu_ xs).2=e:=⟨_,rfl⟩
 rw[he]at hc
 repeat' (first|refine Ctl.h ?_ |((with_reducible intro hif);first |(focus (cases hif;done)) |((try simp only[JH]at hif);try exact hy_)) |((with_reducible first|apply J22 cWh_ok za_|apply J23 fol cWh_ok za_|apply J24);(·rfl);(· (simp only[push_cast,↓JP,Nat.reduceAdd,Nat.reduceEqDiff,Nat.reduceLT,Nat.reduceMul,Nat.reduceLeDiff,reduceCtorEq,reduceIte,↓JK,↓JF,cWh,sCheck,y9_,yt_,ys_,he,hc];rfl));(try kernel_rfl);try exact k20_)|fail)
 apply At.endsRet za_ (fn:=Try.f21) (rs:=[.tmp 2,.tmp 3]) Anc.refl hro (lb_ rfl) rfl
 ·exact k3_
 ·exact k4_
 ·exact k5_
 ·rfl
 ·exact k6_
 ·exact k7_
 ·exact fun β=>rfl
 ·exact k6_
def sDoomB:y4_:=fun args h m=>match args with
 | [v1,.agg [v2,v3,v4]]=>match srcV h 5 (.tup []) v1 with
  | some (c1,n1,f1,r1)=>bif isI .i64 v2 && isI .i64 v3 && isI .i64 v4 then some (c1∧(∀q,q < n1→xt_ (f1 q)=true)∧((∀x∈(ls zd_ n1 f1),x.ok))∧(n1≤281474976710656)∧(fitE (ls zd_ n1 f1) (iOf v2) (iOf v3) (iOf v4)≠0),.tup [.sl 0 0 [] 0 0 0 (some 0),.int .i64 (fitE (ls zd_ n1 f1) (iOf v2) (iOf v3) (iOf v4))],r1,[])else none
  | _=>none
 | _=>none
theorem sDoomB_ok:zm_ Try.prog 34 sDoomB:=by
 refine⟨zg_ (by kernel_rfl),fun args h m c v rd wr hs hm hc w0 M β h' w R hrd hwr hst=>?_⟩
 unfold sDoomB at hs
 split at hs
 ·rename_i v1 v2 v3 v4
  split at hs
  ·rename_i c1 n1 f1 r1 a1
   obtain⟨hb,hs⟩:=zn_ hs
   simp only[Option.some.injEq,Prod.mk.injEq]at hs
   obtain⟨rfl,rfl,rfl,rfl⟩:=hs
   simp only[Bool.and_eq_true]at hb
   obtain⟨⟨b2,b3⟩,b4⟩:=hb
   obtain⟨k1,g1,y1,y2,y3⟩:=hc
   obtain⟨A1,p1,d1,e1,t1⟩:=zp_ R a1 k1 (fun i hi=>hrd i hi) (by omega)
   refine yb_ (views:=[⟨5,(ls zd_ n1 f1).length,prS (ls zd_ n1 f1),A1,p1⟩]) (doomB_lit (ls zd_ n1 f1) p1 (iOf v2) (iOf v3) (iOf v4) y1 (by rw[zc_];exact y2) y3) ?_ R hm hwr ?_ ?_ ?_
   ·exact d20_
   ·exact d39_
   ·exact k6_
   ·exact k6_
  ·cases hs
 ·cases hs
def sChkB:y4_:=fun args h m=>match args with
 | [v1,.agg [v2,v3,v4]]=>match srcV h 5 (.tup []) v1 with
  | some (c1,n1,f1,r1)=>bif isI .i64 v2 && isI .i64 v3 && isI .i64 v4 then some (c1∧(∀q,q < n1→xt_ (f1 q)=true)∧((∀x∈(ls zd_ n1 f1),x.ok))∧(n1≤281474976710656)∧(fitE (ls zd_ n1 f1) (iOf v2) (iOf v3) (iOf v4)≠0),.tup [.int .i64 (-1),.int .i64 (fitE (ls zd_ n1 f1) (iOf v2) (iOf v3) (iOf v4))],r1,[])else none
  | _=>none
 | _=>none
theorem sChkB_ok:zm_ Try.prog 35 sChkB:=by
 refine⟨zg_ (by kernel_rfl),fun args h m c v rd wr hs hm hc w0 M β h' w R hrd hwr hst=>?_⟩
 unfold sChkB at hs
 split at hs
 ·rename_i v1 v2 v3 v4
  split at hs
  ·rename_i c1 n1 f1 r1 a1
   obtain⟨hb,hs⟩:=zn_ hs
   simp only[Option.some.injEq,Prod.mk.injEq]at hs
   obtain⟨rfl,rfl,rfl,rfl⟩:=hs
   simp only[Bool.and_eq_true]at hb
   obtain⟨⟨b2,b3⟩,b4⟩:=hb
   obtain⟨k1,g1,y1,y2,y3⟩:=hc
   obtain⟨A1,p1,d1,e1,t1⟩:=zp_ R a1 k1 (fun i hi=>hrd i hi) (by omega)
   refine yb_ (views:=[⟨5,(ls zd_ n1 f1).length,prS (ls zd_ n1 f1),A1,p1⟩]) (chkB_lit (ls zd_ n1 f1) p1 (iOf v2) (iOf v3) (iOf v4) y1 (by rw[zc_];exact y2) y3) ?_ R hm hwr ?_ ?_ ?_
   ·exact d20_
   ·exact d39_
   ·exact k6_
   ·exact k6_
  ·cases hs
 ·cases hs
def sFactsB:y4_:=fun args h m=>match args with
 | [v1]=>match srcV h 5 (.tup []) v1 with
  | some (c1,n1,f1,r1)=>some (c1∧(∀q,q < n1→xt_ (f1 q)=true)∧((∀x∈(ls zd_ n1 f1),x.ok))∧(n1≤281474976710656)∧((zu_ (ls zd_ n1 f1)).2≠0),.tup [.sl 0 0 [] 0 0 0 (some 0),.int .i64 170],r1,[])
  | _=>none
 | _=>none
theorem sFactsB_ok:zm_ Try.prog 21 sFactsB:=by
 refine⟨zg_ (by kernel_rfl),fun args h m c v rd wr hs hm hc w0 M β h' w R hrd hwr hst=>?_⟩
 unfold sFactsB at hs
 split at hs
 ·rename_i v1
  split at hs
  ·rename_i c1 n1 f1 r1 a1
   simp only[Option.some.injEq,Prod.mk.injEq]at hs
   obtain⟨rfl,rfl,rfl,rfl⟩:=hs
   obtain⟨k1,g1,y1,y2,y3⟩:=hc
   obtain⟨A1,p1,d1,e1,t1⟩:=zp_ R a1 k1 (fun i hi=>hrd i hi) (by omega)
   refine yb_ (views:=[⟨5,(ls zd_ n1 f1).length,prS (ls zd_ n1 f1),A1,p1⟩]) (factsB_lit (ls zd_ n1 f1) p1 y1 (by rw[zc_];exact y2) y3) ?_ R hm hwr ?_ ?_ ?_
   ·exact d20_
   ·exact d21_
   ·exact k6_
   ·exact k6_
  ·cases hs
 ·cases hs
def cLstB:FuncId→Option y4_:=xz_ [(21,sFactsB)]
theorem cLstB_ok:∀f S,cLstB f=some S→zm_ Try.prog f S:=z0_ ⟨sFactsB_ok,trivial⟩
theorem leastB_lit (xs:List Ins)(p1:Nat)(hx:∀x∈xs,x.ok)(hl:xs.length≤281474976710656)(hc:(zu_ xs).2≠0):zz_ Try.prog 20 [.sl 1 2 [] 5 0 xs.length (some p1)] [.gone,.gone,.ro (.arr xs.length 5 (prS xs))] (.tup [.agg [.int .i64 0,.int .i64 0,.int .i64 0],.int .i64 170]) [.gone]:=by
 refine zf_ (fn:=Try.f20) 3 94 0 rfl rfl rfl rfl rfl u3_ rfl fun w0 M E hro=>?_
 have h170:¬((170:Int)=0):=by decide
 repeat' (first|refine Ctl.h ?_ |((with_reducible intro hif);first |(focus (cases hif;done)) |((try simp only[JH]at hif);try exact hy_)) |((with_reducible first|apply J22 cLstB_ok za_|apply J23 fol cLstB_ok za_|apply J24);(·rfl);(· (simp only[push_cast,↓JP,Nat.reduceAdd,Nat.reduceEqDiff,Nat.reduceLT,Nat.reduceMul,Nat.reduceLeDiff,reduceCtorEq,reduceIte,↓JK,↓JF,cLstB,sFactsB,y9_,yt_,ys_,h170];rfl));(try kernel_rfl);(try (focus (first|exact True.intro |((try simp only[JS,implies_true,forall_const,yc_,yf_,kndOf]);(first|exact⟨fun q _=>rfl,hx,hl,hc⟩ |(repeat' (first|assumption|exact True.intro|omega|apply And.intro)));done)))))|fail)
 apply At.endsRet za_ (fn:=Try.f20) (rs:=[.cell 2 31,.tmp 3]) Anc.refl hro (lb_ rfl) rfl
 ·exact k3_
 ·exact k4_
 ·exact k5_
 ·rfl
 ·exact k6_
 ·exact k7_
 ·exact fun β=>rfl
 ·exact k6_
def sLeastB:y4_:=fun args h m=>match args with
 | [v1]=>match srcV h 5 (.tup []) v1 with
  | some (c1,n1,f1,r1)=>some (c1∧(∀q,q < n1→xt_ (f1 q)=true)∧((∀x∈(ls zd_ n1 f1),x.ok))∧(n1≤281474976710656)∧((zu_ (ls zd_ n1 f1)).2≠0),.tup [.agg [.int .i64 0,.int .i64 0,.int .i64 0],.int .i64 170],r1,[])
  | _=>none
 | _=>none
theorem sLeastB_ok:zm_ Try.prog 20 sLeastB:=by
 refine⟨zg_ (by kernel_rfl),fun args h m c v rd wr hs hm hc w0 M β h' w R hrd hwr hst=>?_⟩
 unfold sLeastB at hs
 split at hs
 ·rename_i v1
  split at hs
  ·rename_i c1 n1 f1 r1 a1
   simp only[Option.some.injEq,Prod.mk.injEq]at hs
   obtain⟨rfl,rfl,rfl,rfl⟩:=hs
   obtain⟨k1,g1,y1,y2,y3⟩:=hc
   obtain⟨A1,p1,d1,e1,t1⟩:=zp_ R a1 k1 (fun i hi=>hrd i hi) (by omega)
   refine yb_ (views:=[⟨5,(ls zd_ n1 f1).length,prS (ls zd_ n1 f1),A1,p1⟩]) (leastB_lit (ls zd_ n1 f1) p1 y1 (by rw[zc_];exact y2) y3) ?_ R hm hwr ?_ ?_ ?_
   ·exact d20_
   ·exact d21_
   ·exact k6_
   ·exact k6_
  ·cases hs
 ·cases hs
theorem Doomed_litU (xs:List Ins)(p1:Nat)(c p l:Int)(hx:∀x∈xs,x.ok)(hc:(zu_ xs).2=0)(hl:limB c p l=true):zz_ Try.prog 34 [.sl 1 2 [] 5 0 xs.length (some p1),.agg [.int .i64 c,.int .i64 p,.int .i64 l]] [.gone,.gone,.ro (.arr xs.length 5 (prS xs))]
  (.tup [.sl 3 3 [] 1 0 (yw_ xs (zr_ xs) c p l xs.length).length none,.int .i64 0]) [.gone,.gone,.gone,.own 3 (.arr (yw_ xs (zr_ xs) c p l xs.length).length 1 (zw_ (yw_ xs (zr_ xs) c p l xs.length))) false]:=by
 refine zf_ (fn:=Try.f34) 3 25 0 rfl rfl rfl rfl rfl u3_ rfl fun w0 M E hro=>?_
 have hl6:xs.length≤256:=(yr_ hc).2.1
 have hfit:fitE xs c p l=0:=by unfold fitE;rw[if_pos hc,if_pos hl]
 obtain⟨F,hF⟩:∃F,F=zr_ xs:=⟨_,rfl⟩
 rw[←hF]
 repeat' (first|refine Ctl.h ?_ |((with_reducible intro hif);first |(focus (cases hif;done)) |((try simp only[JH]at hif);try exact hy_)) |((with_reducible first|apply J22 zi_ za_|apply J23 fol zi_ za_|apply J24);(·rfl);(· exact k117_);(try kernel_rfl);try exact k116_)|fail)
 with_reducible apply WF.range (fn':=Try.f117) 32
 ·exact k77_
 ·exact k39_
 ·rfl
 ·rfl
 ·rfl
 ·rfl
 ·rfl
 ·rfl
 ·rfl
 intro E1 rec tmps after hE1 hrec hcf haft
 repeat' (first|refine Ctl.h ?_ |((with_reducible intro hif);first |(focus (cases hif;done)) |((try simp only[JH]at hif);try exact hy_)) |((with_reducible first|apply J22 zi_ za_|apply J23 fol zi_ za_|apply J24);(·rfl);(· exact k118_);(try kernel_rfl);try exact k9_)|fail)
 refine WF.empty 3 1 (zw_ []) (fun _ q=>i64S_stable q) ?_
 refine WF.loopAt (fun k=>k≤xs.length) (fun k=>[(0,.yl 8),(1,.ptr 6 []),(2,.ptr 5 []),(8,.sl 9 9 [] 17 0 xs.length none),(9,.nat .i64 xs.length),(10,.nat .i64 k)]) (fun k=>[.gone,.gone,.ro (.arr xs.length 5 (prS xs)),.gone,.own 79 (nilOr (yw_ xs F c p l k) 10) true,.own 31 (.agg [.int .i64 c,.int .i64 p,.int .i64 l]) true,.own 25 (.sl 1 2 [] 5 0 xs.length (some p1)) true,.raw (.deferred (some [])),.raw (.loop (rec .ready none)),.own 44 (.arr xs.length 17 (y0_ F)) false,.own 3 (.arr (yw_ xs F c p l k).length 1 (zw_ (yw_ xs F c p l k))) false]) (fun k=>xs.length - k) 0 (Nat.zero_le _) ?_ ?_ rfl ?_ ?_ rfl ?_
 ·exact k8_
 ·exact k5_
 ·exact x5_
 ·exact x5_
 ·intro k hk
  obtain⟨Dk,hD⟩:∃Dk,yw_ xs F c p l k=Dk:=⟨_,rfl⟩
  rw[hD]
  have hDl:Dk.length≤256:=by have:=doom_len xs F c p l k;rw[hD]at this;omega
  by_cases hkl:k < xs.length
  ·exact d32_
  ·obtain rfl:k=xs.length:=by omega
   cases hDe:Dk.isEmpty
   ·rw[nilOr_f hDe]
    repeat' (first|refine Ctl.h ?_ |((with_reducible intro hif);first |(focus (cases hif;done)) |((try simp only[JH]at hif);try exact hy_)) |((with_reducible first|apply J22 zi_ za_|apply J23 fol zi_ za_|apply J24);(·rfl);(· exact k122_);(try kernel_rfl);try exact k85_)|fail)
    with_reducible apply At.itNormal .ready
    ·rfl
    ·rfl
    ·intro h;cases h
    apply haft
    intro w1 M1 D1 hA
    dsimp only
    rw[hD]
    repeat' (first|refine Ctl.h ?_ |((with_reducible intro hif);first |(focus (cases hif;done)) |((try simp only[JH]at hif);try exact hy_)) |((with_reducible first|apply J22 zi_ za_|apply J23 fol zi_ za_|apply J24);(·rfl);(· exact k122_);(try kernel_rfl);try exact k85_)|fail)
    apply At.endsPick [0,1,2,10] za_ (fn:=Try.f34) (rs:=[.tmp 4,.tmp 5]) hA hro (lb_ rfl) rfl
    ·exact k3_
    ·exact k39_
    ·rfl
    ·rfl
    ·rfl
    ·exact k53_
    ·rfl
    ·exact x5_
    ·exact k7_
    ·exact fun β=>rfl
    ·exact x5_
   ·rw[nilOr_t hDe]
    have hDz:Dk=[]:=by simpa using hDe
    subst hDz
    repeat' (first|refine Ctl.h ?_ |((with_reducible intro hif);first |(focus (cases hif;done)) |((try simp only[JH]at hif);try exact hy_)) |((with_reducible first|apply J22 zi_ za_|apply J23 fol zi_ za_|apply J24);(·rfl);(· exact k122_);(try kernel_rfl);try exact k85_)|fail)
    with_reducible apply At.itNormal .ready
    ·rfl
    ·rfl
    ·intro h;cases h
    apply haft
    intro w1 M1 D1 hA
    dsimp only
    rw[hD]
    repeat' (first|refine Ctl.h ?_ |((with_reducible intro hif);first |(focus (cases hif;done)) |((try simp only[JH]at hif);try exact hy_)) |((with_reducible first|apply J22 zi_ za_|apply J23 fol zi_ za_|apply J24);(·rfl);(· exact k122_);(try kernel_rfl);try exact k85_)|fail)
    refine At.nil 4 3 1 (zw_ []) rfl (fun h q=>i64S_stable q) ?_
    apply At.endsPick [0,1,2,11] za_ (fn:=Try.f34) (rs:=[.tmp 4,.tmp 5]) hA hro (lb_ rfl) rfl
    ·exact k3_
    ·exact k39_
    ·rfl
    ·rfl
    ·rfl
    ·(repeat' (first|exact trivial|exact .inl rfl|exact .inr (.same _)|exact .inr .loose|exact .inr (.arr (by assumption))|apply And.intro|exact .inr (.arr fun q hq=>absurd hq (Nat.not_lt_zero q))))
    ·rfl
    ·exact x5_
    ·exact k7_
    ·exact fun β=>rfl
    ·exact x5_
def sDoomU:y4_:=fun args h m=>match args with
 | [v1,.agg [v2,v3,v4]]=>match srcV h 5 (.tup []) v1 with
  | some (c1,n1,f1,r1)=>bif isI .i64 v2 && isI .i64 v3 && isI .i64 v4 then some (c1∧(∀q,q < n1→xt_ (f1 q)=true)∧((∀x∈(ls zd_ n1 f1),x.ok))∧((zu_ (ls zd_ n1 f1)).2=0)∧(limB (iOf v2) (iOf v3) (iOf v4)=true),.tup [.sl m m [] 1 0 (yw_ (ls zd_ n1 f1) (zr_ (ls zd_ n1 f1)) (iOf v2) (iOf v3) (iOf v4) (ls zd_ n1 f1).length).length none,.int .i64 0],r1,[(m,.own 3 (.arr (yw_ (ls zd_ n1 f1) (zr_ (ls zd_ n1 f1)) (iOf v2) (iOf v3) (iOf v4) (ls zd_ n1 f1).length).length 1 (zw_ (yw_ (ls zd_ n1 f1) (zr_ (ls zd_ n1 f1)) (iOf v2) (iOf v3) (iOf v4) (ls zd_ n1 f1).length))) false)])else none
  | _=>none
 | _=>none
theorem sDoomU_ok:zm_ Try.prog 34 sDoomU:=by
 refine⟨zg_ (by kernel_rfl),fun args h m c v rd wr hs hm hc w0 M β h' w R hrd hwr hst=>?_⟩
 unfold sDoomU at hs
 split at hs
 ·rename_i v1 v2 v3 v4
  split at hs
  ·rename_i c1 n1 f1 r1 a1
   obtain⟨hb,hs⟩:=zn_ hs
   simp only[Option.some.injEq,Prod.mk.injEq]at hs
   obtain⟨rfl,rfl,rfl,rfl⟩:=hs
   simp only[Bool.and_eq_true]at hb
   obtain⟨⟨b2,b3⟩,b4⟩:=hb
   obtain⟨k1,g1,y1,y2,y3⟩:=hc
   obtain⟨A1,p1,d1,e1,t1⟩:=zp_ R a1 k1 (fun i hi=>hrd i hi) (by omega)
   refine yb_ (views:=[⟨5,(ls zd_ n1 f1).length,prS (ls zd_ n1 f1),A1,p1⟩]) (Doomed_litU (ls zd_ n1 f1) p1 (iOf v2) (iOf v3) (iOf v4) y1 y2 y3) ?_ R hm hwr ?_ ?_ ?_
   ·exact d20_
   ·exact d39_
   ·exact x5_
   ·exact x5_
  ·cases hs
 ·cases hs
end Go.Proofs.Ytmljmabbopkpiaa.Vm
end
end
section
namespace Go.Proofs.Ytmljmabbopkpiaa.Vm
open Go.RowKit
end Go.Proofs.Ytmljmabbopkpiaa.Vm
end
section
namespace Go.Proofs.Ytmljmabbopkpiaa
open Go.RowKit
def foldI (x n:Int):Int:=bits .xor .u64 x (x / 2 ^ n.toNat)
def mixI (x:Int):Int:=foldI (IntKind.u64.wrap (foldI (IntKind.u64.wrap (foldI x 30*13787848793156543929)) 27*10723151780598845931)) 31
def atI (key index:Int):Int:=mixI (IntKind.u64.wrap (key+IntKind.u64.wrap (IntKind.u64.wrap (IntKind.u64.wrap index+1)*11400714819323198485)))
def lo32 (z:Int):Int:=bits .and .u64 z 4294967295
def upP (v n:Int):Int:=IntKind.u64.wrap (lo32 v*lo32 n)
def upQ (v n:Int):Int:=IntKind.u64.wrap (IntKind.u64.wrap (v / 4294967296*lo32 n)+upP v n / 4294967296)
def upR (v n:Int):Int:=IntKind.u64.wrap (IntKind.u64.wrap (lo32 v*(n / 4294967296))+lo32 (upQ v n))
def upperI (v n:Int):Int:=IntKind.u64.wrap (IntKind.u64.wrap (IntKind.u64.wrap (v / 4294967296*(n / 4294967296))+upQ v n / 4294967296)+upR v n / 4294967296)
def belowI (v n:Int):Int:=wrap64 (upperI v (IntKind.u64.wrap n))
def join2 (x y:Int):Int:=mixI (IntKind.u64.wrap (IntKind.u64.wrap (11400714819323198485+y)+IntKind.u64.wrap (mixI (IntKind.u64.wrap (IntKind.u64.wrap (11400714819323198485+x)))*11400714819323198485)))
def keyI (seed process:Int):Int:=join2 seed process
def valueI (seed process index:Int):Int:=atI (keyI seed process) index
def drawI (seed process index n:Int):Int:=belowI (valueI seed process index) n
end Go.Proofs.Ytmljmabbopkpiaa
end
section
namespace Go.Proofs.Ytmljmabbopkpiaa.Vm
open Go.RowKit
structure Sta where
 at_:Int
 ended:Bool
 regs:Nat→Int
 cells:List Int
 draws:Int
 sends:List Snd
structure Evi where
 seed:Int
 process:Int
 ports:Int
 look:Int
 now:Int
def Sta.put (s:Sta)(k:Nat)(x:Int):Sta:={ s with regs:=fun j=>if j=k then x else s.regs j,at_:=s.at_+1 }
theorem sta_eta (s:Sta):Sta.mk s.at_ s.ended (fun q=>s.regs q) s.cells s.draws s.sends=s:=rfl
theorem evi_eta (v:Evi):Evi.mk v.seed v.process v.ports v.look v.now=v:=rfl
def sendE (s:Sta)(v:Evi)(i:Ins):Int:=
 if v.ports≤i.n then 188 else if s.regs i.a.toNat < v.look then 189 else if 281474976710656 - v.now < s.regs i.a.toNat then 1800 else if 256≤s.sends.length then 1801 else 0
def doE (s:Sta)(v:Evi)(i:Ins):Int:=
 if i.op=2 then 184
 else if i.op=5∨i.op=6 then(if s.regs i.b.toNat < 0∨(s.cells.length:Int)≤s.regs i.b.toNat then 185 else 0)
 else if i.op=7 then(if s.regs i.b.toNat < 1 then 186 else if s.draws=1099511627776 then 187 else 0)
 else if i.op=8 then sendE s v i
 else if i.op < 32 then 0
 else z9_ (i.op - 32) (s.regs i.c.toNat)
def doS (s:Sta)(v:Evi)(i:Ins):Sta:=
 if doE s v i≠0 then s
 else if i.op=1 then { s with ended:=true }
 else if i.op=3 then s.put i.a.toNat i.n
 else if i.op=4 then s.put i.a.toNat (s.regs i.b.toNat)
 else if i.op=5 then s.put i.a.toNat (s.cells.getD (s.regs i.b.toNat).toNat 0)
 else if i.op=6 then { s with cells:=s.cells.set (s.regs i.b.toNat).toNat (s.regs i.a.toNat),at_:=s.at_+1 }
 else if i.op=7 then { s.put i.a.toNat (drawI v.seed v.process s.draws (s.regs i.b.toNat))with draws:=s.draws+1 }
 else if i.op=8 then { s with at_:=s.at_+1,sends:=s.sends++[⟨i.n,s.regs i.a.toNat,s.regs i.b.toNat⟩] }
 else if i.op=9 then { s with at_:=i.n }
 else if i.op=10 then { s with at_:=if s.regs i.a.toNat=0 then i.n else s.at_+1 }
 else if i.op=11 then { s with at_:=if s.regs i.a.toNat < 0 then i.n else s.at_+1 }
 else s.put i.a.toNat (ye_ (i.op - 32) (s.regs i.b.toNat) (s.regs i.c.toNat))
def Evi.rightB (v:Evi):Bool:=decide (0≤v.process∧v.process≤65536∧0≤v.ports∧1≤v.look∧0≤v.now∧v.now≤281474976710656)
def Sta.rightB (s:Sta)(n:Int):Bool:=decide (0≤s.at_∧s.at_ < n∧(s.cells.length:Int)≤1024∧0≤s.draws∧s.draws≤1099511627776)
structure RI (x:Ins):Prop where
 ok:x.ok
 a:x.a < 8
 b:x.b < 8
 c:x.c < 8
 jmp:x.op=9∨x.op=10∨x.op=11→0≤x.n∧x.n < 256
 snd:x.op=8→0≤x.n∧x.n < 16
 cls:x.op=1∨x.op=2∨x.op=3∨x.op=4∨x.op=5∨x.op=6∨x.op=7∨x.op=8∨x.op=9∨x.op=10∨x.op=11∨(33≤x.op∧x.op≤49)
structure VOk (v:Evi):Prop where
 p0:0≤v.process
 p1:v.process≤65536
 t0:0≤v.now
 t1:v.now≤281474976710656
 o0:0≤v.ports
 l0:1≤v.look
structure SOk (s:Sta):Prop where
 a0:0≤s.at_
 a1:s.at_≤256
 d0:0≤s.draws
 d1:s.draws≤1099511627776
 c1:s.cells.length≤1024
 n1:s.sends.length≤1000000
theorem VOk.of {v:Evi}(h:v.rightB=true):VOk v:=by
 have:=of_decide_eq_true (show decide _=true from h)
 exact⟨by omega,by omega,by omega,by omega,by omega,by omega⟩
end Go.Proofs.Ytmljmabbopkpiaa.Vm
end

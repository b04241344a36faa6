import Derived.Test.YtmljmabbopkpiaaV1
import Derived.Test.YtmljmabbopkpiaaV8
import Derived.Test.YtmljmabbopkpiaaV20
set_option linter.unusedSimpArgs false
set_option linter.unusedVariables false
set_option maxRecDepth 100000
set_option maxHeartbeats 4000000
section
namespace Go.Proofs.Ytmljmabbopkpiaa.Vm
open Go.RowKit
attribute [local push_cast] eqB eqBL allB prS sndsS i64S nav_ins nav_ins0 nav_ins1 nav_ins2 nav_ins3 nav_ins4 nav_snd nav_snd0 nav_snd1 nav_snd2 yz_ zf_ yy_ yx_ isI_int isI_nat iOf nav_k nav_k0 nav_k1 nav_ka nav_kai nav_ft nav_ft0 nav_ft1 isKn_kS knOf_kS isKa_kaS kaOf_kaS isFt_ftS ftOf_ftS setp_ka setp_ftk setp_ftr setp_fti evm_ins evm_snd evm_k evm_ka evm_ft
def whyK (xs:List Ins)(F:List Ft)(c p l:Int)(k:Nat):Int:=whyE c p l (xs.getD k ⟨0,0,0,0,0⟩) (z6_ F k)
def badB (xs:List Ins)(F:List Ft)(c p l:Int)(k:Nat):Bool:=decide (whyK xs F c p l k≠0) && decide (whyK xs F c p l k≠176)
def chkR (xs:List Ins)(F:List Ft)(c p l:Int):Int×Int:=match (List.range xs.length).find? (badB xs F c p l)with
 | some k=>((k:Int),whyK xs F c p l k)
 | none=>(-1,0)
theorem chkR_some {xs:List Ins}{F:List Ft}{c p l:Int}{k:Nat}(hk:k < xs.length)(h:badB xs F c p l k=true)(hm:∀j,j < k→badB xs F c p l j=false):chkR xs F c p l=((k:Int),whyK xs F c p l k):=by
 have e:(List.range xs.length).find? (badB xs F c p l)=some k:=by
  rw[List.find?_range_eq_some]
  exact⟨h,List.mem_range.2 hk,fun j hj=>by rw[hm j hj];rfl⟩
 unfold chkR
 rw[e]
theorem chkR_none {xs:List Ins}{F:List Ft}{c p l:Int}(hm:∀j,j < xs.length→badB xs F c p l j=false):chkR xs F c p l=(-1,0):=by
 have e:(List.range xs.length).find? (badB xs F c p l)=none:=by
  rw[List.find?_eq_none]
  intro j hj
  rw[hm j (List.mem_range.1 hj)]
  decide
 unfold chkR
 rw[e]
theorem Check_lit (xs:List Ins)(p1:Nat)(c p l:Int)(hx:∀x∈xs,x.ok)(hc:(z7_ xs).2=0)(hl:limB c p l=true):LitOk Try.prog 35 [.sl 1 2 [] 5 0 xs.length (some p1),.agg [.int .i64 c,.int .i64 p,.int .i64 l]] [.gone,.gone,.ro (.arr xs.length 5 (prS xs))]
  (.tup [.int .i64 (chkR xs (z1_ xs) c p l).1,.int .i64 (chkR xs (z1_ xs) c p l).2]) [.gone]:=by
 refine litOkM (fn:=Try.f35) 3 24 0 rfl rfl rfl rfl rfl u2_ rfl fun w0 M E hro=>?_
 have hl6:xs.length≤256:=(ys_ hc).2.1
 have hfit:fitE xs c p l=0:=by unfold fitE;rw[if_pos hc,if_pos hl]
 obtain⟨F,hF⟩:∃F,F=z1_ xs:=⟨_,rfl⟩
 rw[←hF]
 repeat' (first|refine Ctl.h ?_ |((with_reducible intro hif);first |(focus (cases hif;done)) |((try simp only[JH]at hif);try exact hy_)) |((with_reducible first|apply J22 zh_ za_|apply J23 fol zh_ za_|apply J24);(·rfl);(· exact k99_);(try kernel_rfl);try exact k98_)|fail)
 with_reducible apply WF.range (fn':=Try.f117) 32
 ·exact k67_
 ·exact k18_
 ·rfl
 ·rfl
 ·rfl
 ·rfl
 ·rfl
 ·rfl
 ·rfl
 intro E1 rec tmps after hE1 hrec hcf haft
 repeat' (first|refine Ctl.h ?_ |((with_reducible intro hif);first |(focus (cases hif;done)) |((try simp only[JH]at hif);try exact hy_)) |((with_reducible first|apply J22 zh_ za_|apply J23 fol zh_ za_|apply J24);(·rfl);(· exact k100_);(try kernel_rfl);try exact k11_)|fail)
 refine WF.loopAt (fun k=>k≤xs.length∧∀j,j < k→badB xs F c p l j=false) (fun k=>[(0,.yl 9),(1,.ptr 7 []),(2,.ptr 6 []),(8,.sl 10 10 [] 17 0 xs.length none),(9,.nat .i64 xs.length),(10,.nat .i64 k)]) (fun k=>[.gone,.gone,.ro (.arr xs.length 5 (prS xs)),.gone,.own 3 (.nat .i64 0) true,.own 32 (.nat .i64 0) true,.own 31 (.agg [.int .i64 c,.int .i64 p,.int .i64 l]) true,.own 25 (.sl 1 2 [] 5 0 xs.length (some p1)) true,.raw (.deferred (some [])),.raw (.loop (rec .ready none)),.own 44 (.arr xs.length 17 (ftsS F)) false]) (fun k=>xs.length - k) 0 ⟨Nat.zero_le _,fun j hj=>absurd hj (Nat.not_lt_zero j)⟩ ?_ ?_ rfl ?_ ?_ rfl ?_
 ·exact k13_
 ·exact k5_
 ·exact k93_
 ·exact k93_
 ·rintro k ⟨hk,hno⟩
  by_cases hkl:k < xs.length
  ·obtain⟨x,hX⟩:∃x,xs.getD k ⟨0,0,0,0,0⟩=x:=⟨_,rfl⟩
   have hR:=right_at hx hc hkl
   rw[hX]at hR
   have hok:=hR.ok
   have ha8:=hR.a
   have hb8:=hR.b
   have hc8:=hR.c
   have hW:whyK xs F c p l k=whyE c p l x (z6_ F k):=by unfold whyK;rw[hX]
   have nxt:badB xs F c p l k=false→∀j,j < k+1→badB xs F c p l j=false:=fun h j hj=>by
    by_cases q:j=k
    ·rw[q];exact h
    ·exact hno j (by omega)
   by_cases he:whyE c p l x (z6_ F k)=0
   ·have hb:=nxt (by unfold badB;rw[hW,he];rfl)
    repeat' (first|refine Ctl.h ?_ |((with_reducible intro hif);first |(focus (cases hif;done)) |((try simp only[JH]at hif);try exact hy_)) |((with_reducible first|apply J22 zh_ za_|apply J23 fol zh_ za_|apply J24);(·rfl);(· exact k101_);(try kernel_rfl);try exact k15_)|fail)
    refine At.next (k+1) ?_ ?_ ?_ rfl ?_ ?_ rfl
    ·exact⟨⟨hkl,hb⟩,by omega⟩
    ·exact k13_
    ·exact k5_
    ·exact k93_
    ·exact k93_
   ·by_cases hf:whyE c p l x (z6_ F k)=176
    ·have hb:=nxt (by unfold badB;rw[hW,hf];rfl)
     have h176:¬((176:Int)=0):=by decide
     repeat' (first|refine Ctl.h ?_ |((with_reducible intro hif);first |(focus (cases hif;done)) |((try simp only[JH]at hif);try exact hy_)) |((with_reducible first|apply J22 zh_ za_|apply J23 fol zh_ za_|apply J24);(·rfl);(· (simp only[push_cast,↓JP,Nat.reduceAdd,Nat.reduceEqDiff,Nat.reduceLT,Nat.reduceMul,Nat.reduceLeDiff,reduceCtorEq,reduceIte,↓JK,↓JF,cWys,sWhyL,ftsS,hX,inN,hkl,hf,h176];rfl));(try kernel_rfl);try exact k15_)|fail)
     with_reducible apply WF.split 6 2
     ·rfl
     with_reducible apply At.run zh_ za_
     ·rfl
     ·rfl
     ·rfl
     ·exact k105_
     ·exact k95_
     with_reducible apply At.yield (gr:=_)
     ·rfl
     ·rfl
     ·rfl
     ·rfl
     ·rfl
     ·rfl
     ·exact k105_
     ·exact k106_
     ·exact k105_
     ·exact k95_
     ·exact k105_
     ·exact k95_
     ·exact k106_
     ·exact hrec
     ·exact hcf
     ·rfl
     ·rfl
     ·rfl
     intro lb E2 next hE2 hnext
     repeat' (first|refine Ctl.h ?_ |((with_reducible intro hif);first |(focus (cases hif;done)) |((try simp only[JH]at hif);try exact hy_)) |((with_reducible first|apply J22 zh_ za_|apply J23 fol zh_ za_|apply J24);(·rfl);(· exact k109_);(try kernel_rfl);try exact k15_)|fail)
     with_reducible apply At.begins hrec
     ·rfl
     with_reducible refine At.code ?_
     repeat' (first|refine Ctl.h ?_ |((with_reducible intro hif);first |(focus (cases hif;done)) |((try simp only[JH]at hif);try exact hy_)) |((with_reducible first|apply J22 zh_ za_|apply J23 fol zh_ za_|apply J24);(·rfl);(· exact k109_);(try kernel_rfl);try exact k15_)|fail)
     with_reducible apply At.roundNormal
     ·first|rfl |(simp only[push_cast,↓JP,Nat.reduceAdd,Nat.reduceEqDiff,Nat.reduceLT,Nat.reduceMul,Nat.reduceLeDiff,reduceCtorEq,reduceIte,↓JK,↓JF,zu_,List.drop_zero,List.drop_succ_cons,cWys,inN,hf];done)
     apply hnext
     with_reducible apply At.runEnd zh_ za_
     ·rfl
     ·rfl
     ·rfl
     ·simp only[push_cast,↓JP,Nat.reduceAdd,Nat.reduceEqDiff,Nat.reduceLT,Nat.reduceMul,Nat.reduceLeDiff,reduceCtorEq,reduceIte,↓JK,↓JF,zu_,List.drop_zero,List.drop_succ_cons,cWys,inN,hf];rfl
     ·exact k95_
     repeat' (first|refine Ctl.h ?_ |((with_reducible intro hif);first |(focus (cases hif;done)) |((try simp only[JH]at hif);try exact hy_)) |((with_reducible first|apply J22 zh_ za_|apply J23 fol zh_ za_|apply J24);(·rfl);(· exact k109_);(try kernel_rfl);try exact k15_)|fail)
     refine At.next (k+1) ?_ ?_ ?_ rfl ?_ ?_ rfl
     ·exact⟨⟨hkl,hb⟩,by omega⟩
     ·exact k13_
     ·exact k5_
     ·exact k93_
     ·exact k93_
    ·have hb:chkR xs F c p l=((k:Int),whyE c p l x (z6_ F k)):=by rw[chkR_some hkl (by unfold badB;rw[hW];simp[he,hf]) hno,hW]
     repeat' (first|refine Ctl.h ?_ |((with_reducible intro hif);first |(focus (cases hif;done)) |((try simp only[JH]at hif);try exact hy_)) |((with_reducible first|apply J22 zh_ za_|apply J23 fol zh_ za_|apply J24);(·rfl);(· (simp only[push_cast,↓JP,Nat.reduceAdd,Nat.reduceEqDiff,Nat.reduceLT,Nat.reduceMul,Nat.reduceLeDiff,reduceCtorEq,reduceIte,↓JK,↓JF,cWys,sWhyL,ftsS,hX,inN,hkl,he,hf];rfl));(try kernel_rfl);try exact k15_)|fail)
     with_reducible apply WF.split 6 2
     ·rfl
     with_reducible apply At.run zh_ za_
     ·rfl
     ·rfl
     ·rfl
     ·exact k107_
     ·exact k95_
     with_reducible apply At.yield (gr:=_)
     ·rfl
     ·rfl
     ·rfl
     ·rfl
     ·rfl
     ·rfl
     ·exact k107_
     ·exact k108_
     ·exact k107_
     ·exact k95_
     ·exact k107_
     ·exact k95_
     ·exact k108_
     ·exact hrec
     ·exact hcf
     ·rfl
     ·rfl
     ·rfl
     intro lb E2 next hE2 hnext
     repeat' (first|refine Ctl.h ?_ |((with_reducible intro hif);first |(focus (cases hif;done)) |((try simp only[JH]at hif);try exact hy_)) |((with_reducible first|apply J22 zh_ za_|apply J23 fol zh_ za_|apply J24);(·rfl);(· exact k110_);(try kernel_rfl);try exact k15_)|fail)
     with_reducible apply At.begins hrec
     ·rfl
     with_reducible refine At.code ?_
     repeat' (first|refine Ctl.h ?_ |((with_reducible intro hif);first |(focus (cases hif;done)) |((try simp only[JH]at hif);try exact hy_)) |((with_reducible first|apply J22 zh_ za_|apply J23 fol zh_ za_|apply J24);(·rfl);(· exact k110_);(try kernel_rfl);try exact k15_)|fail)
     with_reducible apply At.roundRet
     ·exact k108_
     apply hnext
     with_reducible apply At.runEnd zh_ za_
     ·rfl
     ·rfl
     ·rfl
     ·exact k107_
     ·exact k95_
     repeat' (first|refine Ctl.h ?_ |((with_reducible intro hif);first |(focus (cases hif;done)) |((try simp only[JH]at hif);try exact hy_)) |((with_reducible first|apply J22 zh_ za_|apply J23 fol zh_ za_|apply J24);(·rfl);(· exact k110_);(try kernel_rfl);try exact k15_)|fail)
     with_reducible apply At.itRet .done
     ·rfl
     ·rfl
     ·intro h;cases h
     apply haft
     intro w1 M1 D1 hA
     dsimp only
     rw[hb]
     repeat' (first|refine Ctl.h ?_ |((with_reducible intro hif);first |(focus (cases hif;done)) |((try simp only[JH]at hif);try exact hy_)) |((with_reducible first|apply J22 zh_ za_|apply J23 fol zh_ za_|apply J24);(·rfl);(· exact k104_);(try kernel_rfl);try exact k15_)|fail)
     apply At.endsRet za_ (fn:=Try.f35) (rs:=[.cell 4 3,.cell 5 32]) hA hro (lb_ rfl) rfl
     ·exact k62_
     ·exact k4_
     ·exact k5_
     ·rfl
     ·exact k93_
     ·exact k7_
     ·exact fun β=>rfl
     ·exact k93_
  ·obtain rfl:k=xs.length:=by omega
   have hb:=chkR_none hno
   repeat' (first|refine Ctl.h ?_ |((with_reducible intro hif);first |(focus (cases hif;done)) |((try simp only[JH]at hif);try exact hy_)) |((with_reducible first|apply J22 zh_ za_|apply J23 fol zh_ za_|apply J24);(·rfl);(· exact k104_);(try kernel_rfl);try exact k15_)|fail)
   with_reducible apply At.itNormal .ready
   ·rfl
   ·rfl
   ·intro h;cases h
   apply haft
   intro w1 M1 D1 hA
   dsimp only
   rw[hb]
   repeat' (first|refine Ctl.h ?_ |((with_reducible intro hif);first |(focus (cases hif;done)) |((try simp only[JH]at hif);try exact hy_)) |((with_reducible first|apply J22 zh_ za_|apply J23 fol zh_ za_|apply J24);(·rfl);(· exact k104_);(try kernel_rfl);try exact k15_)|fail)
   apply At.endsRet za_ (fn:=Try.f35) (rs:=[.cell 4 3,.cell 5 32]) hA hro (lb_ rfl) rfl
   ·exact k62_
   ·exact k4_
   ·exact k5_
   ·rfl
   ·exact k93_
   ·exact k7_
   ·exact fun β=>rfl
   ·exact k93_
def sChk17:Spec:=fun args h m=>match args with
 | [v1,.agg [v2,v3,v4]]=>match srcV h 5 (.tup []) v1 with
  | some (c1,n1,f1,r1)=>bif isI .i64 v2 && isI .i64 v3 && isI .i64 v4 then some (c1∧(∀q,q < n1→isIns (f1 q)=true)∧((∀x∈(ls zg_ n1 f1),x.ok))∧((z7_ (ls zg_ n1 f1)).2=0)∧(limB (iOf v2) (iOf v3) (iOf v4)=true),.tup [.int .i64 (chkR (ls zg_ n1 f1) (z1_ (ls zg_ n1 f1)) (iOf v2) (iOf v3) (iOf v4)).1,.int .i64 (chkR (ls zg_ n1 f1) (z1_ (ls zg_ n1 f1)) (iOf v2) (iOf v3) (iOf v4)).2],r1,[])else none
  | _=>none
 | _=>none
theorem sChk17_ok:zs_ Try.prog 35 sChk17:=by
 refine⟨zp_ (by kernel_rfl),fun args h m c v rd wr hs hm hc w0 M β h' w R hrd hwr hst=>?_⟩
 unfold sChk17 at hs
 split at hs
 ·rename_i v1 v2 v3 v4
  split at hs
  ·rename_i c1 n1 f1 r1 a1
   obtain⟨hb,hs⟩:=zq_ hs
   simp only[Option.some.injEq,Prod.mk.injEq]at hs
   obtain⟨rfl,rfl,rfl,rfl⟩:=hs
   simp only[Bool.and_eq_true]at hb
   obtain⟨⟨b2,b3⟩,b4⟩:=hb
   obtain⟨k1,g1,y1,y2,y3⟩:=hc
   obtain⟨A1,p1,d1,e1,t1⟩:=yn_ R a1 k1 (fun i hi=>hrd i hi) (by omega)
   refine callRo (views:=[⟨5,(ls zg_ n1 f1).length,prS (ls zg_ n1 f1),A1,p1⟩]) (Check_lit (ls zg_ n1 f1) p1 (iOf v2) (iOf v3) (iOf v4) y1 y2 y3) ?_ R hm hwr ?_ ?_ ?_
   ·exact d16_
   ·exact d24_
   ·exact k93_
   ·exact k93_
  ·cases hs
 ·cases hs
theorem doomN_lit (xs:List Ins)(p1:Nat)(c p l:Int)(hx:∀x∈xs,x.ok)(hc:(z7_ xs).2=0)(hl:limB c p l=true)(hD:(doomK xs (z1_ xs) c p l xs.length).isEmpty=true):LitOk Try.prog 34 [.sl 1 2 [] 5 0 xs.length (some p1),.agg [.int .i64 c,.int .i64 p,.int .i64 l]] [.gone,.gone,.ro (.arr xs.length 5 (prS xs))] (.tup [.sl 0 0 [] 0 0 0 (some 0),.int .i64 0]) [.gone,.gone,.gone,.own 3 (.arr (doomK xs (z1_ xs) c p l xs.length).length 1 (i64S (doomK xs (z1_ xs) c p l xs.length))) false]:=by
 have:=Doomed_lit xs p1 c p l hx hc hl
 rwa [nilOr_t hD]at this
theorem doomS_lit (xs:List Ins)(p1:Nat)(c p l:Int)(hx:∀x∈xs,x.ok)(hc:(z7_ xs).2=0)(hl:limB c p l=true)(hD:(doomK xs (z1_ xs) c p l xs.length).isEmpty=false):LitOk Try.prog 34 [.sl 1 2 [] 5 0 xs.length (some p1),.agg [.int .i64 c,.int .i64 p,.int .i64 l]] [.gone,.gone,.ro (.arr xs.length 5 (prS xs))] (.tup [.sl 3 3 [] 1 0 (doomK xs (z1_ xs) c p l xs.length).length none,.int .i64 0]) [.gone,.gone,.gone,.own 3 (.arr (doomK xs (z1_ xs) c p l xs.length).length 1 (i64S (doomK xs (z1_ xs) c p l xs.length))) false]:=by
 have:=Doomed_lit xs p1 c p l hx hc hl
 rwa [nilOr_f hD]at this
def sDoomN:Spec:=fun args h m=>match args with
 | [v1,.agg [v2,v3,v4]]=>match srcV h 5 (.tup []) v1 with
  | some (c1,n1,f1,r1)=>bif isI .i64 v2 && isI .i64 v3 && isI .i64 v4 then some (c1∧(∀q,q < n1→isIns (f1 q)=true)∧((∀x∈(ls zg_ n1 f1),x.ok))∧((z7_ (ls zg_ n1 f1)).2=0)∧(limB (iOf v2) (iOf v3) (iOf v4)=true)∧((doomK (ls zg_ n1 f1) (z1_ (ls zg_ n1 f1)) (iOf v2) (iOf v3) (iOf v4) (ls zg_ n1 f1).length).isEmpty=true),.tup [.sl 0 0 [] 0 0 0 (some 0),.int .i64 0],r1,[(m,.own 3 (.arr (doomK (ls zg_ n1 f1) (z1_ (ls zg_ n1 f1)) (iOf v2) (iOf v3) (iOf v4) (ls zg_ n1 f1).length).length 1 (i64S (doomK (ls zg_ n1 f1) (z1_ (ls zg_ n1 f1)) (iOf v2) (iOf v3) (iOf v4) (ls zg_ n1 f1).length))) false)])else none
  | _=>none
 | _=>none
theorem sDoomN_ok:zs_ Try.prog 34 sDoomN:=by
 refine⟨zp_ (by kernel_rfl),fun args h m c v rd wr hs hm hc w0 M β h' w R hrd hwr hst=>?_⟩
 unfold sDoomN at hs
 split at hs
 ·rename_i v1 v2 v3 v4
  split at hs
  ·rename_i c1 n1 f1 r1 a1
   obtain⟨hb,hs⟩:=zq_ hs
   simp only[Option.some.injEq,Prod.mk.injEq]at hs
   obtain⟨rfl,rfl,rfl,rfl⟩:=hs
   simp only[Bool.and_eq_true]at hb
   obtain⟨⟨b2,b3⟩,b4⟩:=hb
   obtain⟨k1,g1,y1,y2,y3,y4⟩:=hc
   obtain⟨A1,p1,d1,e1,t1⟩:=yn_ R a1 k1 (fun i hi=>hrd i hi) (by omega)
   refine callRo (views:=[⟨5,(ls zg_ n1 f1).length,prS (ls zg_ n1 f1),A1,p1⟩]) (doomN_lit (ls zg_ n1 f1) p1 (iOf v2) (iOf v3) (iOf v4) y1 y2 y3 y4) ?_ R hm hwr ?_ ?_ ?_
   ·exact d16_
   ·exact d24_
   ·exact k93_
   ·exact k93_
  ·cases hs
 ·cases hs
def sDoomS:Spec:=fun args h m=>match args with
 | [v1,.agg [v2,v3,v4]]=>match srcV h 5 (.tup []) v1 with
  | some (c1,n1,f1,r1)=>bif isI .i64 v2 && isI .i64 v3 && isI .i64 v4 then some (c1∧(∀q,q < n1→isIns (f1 q)=true)∧((∀x∈(ls zg_ n1 f1),x.ok))∧((z7_ (ls zg_ n1 f1)).2=0)∧(limB (iOf v2) (iOf v3) (iOf v4)=true)∧((doomK (ls zg_ n1 f1) (z1_ (ls zg_ n1 f1)) (iOf v2) (iOf v3) (iOf v4) (ls zg_ n1 f1).length).isEmpty=false),.tup [.sl m m [] 1 0 (doomK (ls zg_ n1 f1) (z1_ (ls zg_ n1 f1)) (iOf v2) (iOf v3) (iOf v4) (ls zg_ n1 f1).length).length none,.int .i64 0],r1,[(m,.own 3 (.arr (doomK (ls zg_ n1 f1) (z1_ (ls zg_ n1 f1)) (iOf v2) (iOf v3) (iOf v4) (ls zg_ n1 f1).length).length 1 (i64S (doomK (ls zg_ n1 f1) (z1_ (ls zg_ n1 f1)) (iOf v2) (iOf v3) (iOf v4) (ls zg_ n1 f1).length))) false)])else none
  | _=>none
 | _=>none
theorem sDoomS_ok:zs_ Try.prog 34 sDoomS:=by
 refine⟨zp_ (by kernel_rfl),fun args h m c v rd wr hs hm hc w0 M β h' w R hrd hwr hst=>?_⟩
 unfold sDoomS at hs
 split at hs
 ·rename_i v1 v2 v3 v4
  split at hs
  ·rename_i c1 n1 f1 r1 a1
   obtain⟨hb,hs⟩:=zq_ hs
   simp only[Option.some.injEq,Prod.mk.injEq]at hs
   obtain⟨rfl,rfl,rfl,rfl⟩:=hs
   simp only[Bool.and_eq_true]at hb
   obtain⟨⟨b2,b3⟩,b4⟩:=hb
   obtain⟨k1,g1,y1,y2,y3,y4⟩:=hc
   obtain⟨A1,p1,d1,e1,t1⟩:=yn_ R a1 k1 (fun i hi=>hrd i hi) (by omega)
   refine callRo (views:=[⟨5,(ls zg_ n1 f1).length,prS (ls zg_ n1 f1),A1,p1⟩]) (doomS_lit (ls zg_ n1 f1) p1 (iOf v2) (iOf v3) (iOf v4) y1 y2 y3 y4) ?_ R hm hwr ?_ ?_ ?_
   ·exact d16_
   ·exact d24_
   ·exact k93_
   ·exact k93_
  ·cases hs
 ·cases hs
theorem callOk_or {P:Program}{f:FuncId}{S1 S2:Spec}(b:List SV→HM→Bool)(h1:zs_ P f S1)(h2:zs_ P f S2):zs_ P f (fun args h m=>bif b args h then S1 args h m else S2 args h m):=by
 refine⟨h1.1,fun args h m c v rd wr hs=>?_⟩
 cases hb:b args h
 ·simp only[hb,cond_false]at hs;exact h2.2 args h m c v rd wr hs
 ·simp only[hb,cond_true]at hs;exact h1.2 args h m c v rd wr hs
def doomE (args:List SV)(h:HM):Bool:=match args with
 | [v,.agg [v2,v3,v4]]=>match srcV h 5 (.tup []) v with
  | some (_,n,f,_)=>(doomK (ls zg_ n f) (z1_ (ls zg_ n f)) (iOf v2) (iOf v3) (iOf v4) n).isEmpty
  | none=>true
 | _=>true
def sDoomed:Spec:=fun args h m=>bif doomE args h then sDoomN args h m else sDoomS args h m
theorem sDoomed_ok:zs_ Try.prog 34 sDoomed:=callOk_or doomE sDoomN_ok sDoomS_ok
end Go.Proofs.Ytmljmabbopkpiaa.Vm
end
section
namespace Go.Proofs.Ytmljmabbopkpiaa.Vm
open Go.RowKit
attribute [local push_cast] eqB eqBL allB
theorem eqZ_lit (xs ys:List Int)(p1 p2:Nat)(hx:xs.length≤281474976710656):LitOk Try.prog 53 [.sl 1 2 [] 1 0 xs.length (some p1),.sl 3 4 [] 1 0 ys.length (some p2)] [.gone,.gone,.ro (.arr xs.length 1 (i64S xs)),.gone,.ro (.arr ys.length 1 (i64S ys))] (.bool (eqL xs ys)) [.gone]:=by
 refine litOkM (fn:=Try.f53) 5 26 0 rfl rfl rfl rfl rfl u2_ rfl fun w0 M E hro=>?_
 repeat' (first|refine Ctl.h ?_ |((with_reducible intro hif);first |(focus (cases hif;done)) |((try simp only[JH]at hif);try exact hy_)) |((with_reducible first|apply J22 c1_ok za_|apply J23 fol c1_ok za_|apply J24);(·rfl);(· exact k12_);(try kernel_rfl);try exact k11_)|fail)
 ·have hne:xs≠ys:=fun e=>hif (by rw[e])
  apply At.endsRet za_ (fn:=Try.f53) (rs:=[.tmp 4]) Anc.refl hro (lb_ rfl) rfl
  ·exact k3_
  ·exact k4_
  ·exact k5_
  ·rfl
  ·exact k6_
  ·exact k7_
  ·rw[eqL_false hne];exact fun β=>rfl
  ·exact k6_
 ·refine WF.loopAt (fun j=>j≤xs.length∧∀q,q < j→xs.getD q 0=ys.getD q 0) (fun j=>[(0,.sl 1 2 [] 1 0 xs.length (some p1)),(1,.sl 3 4 [] 1 0 ys.length (some p2)),(12,.nat .i64 xs.length),(13,.nat .i64 j)]) (fun j=>[.gone,.gone,.ro (.arr xs.length 1 (i64S xs)),.gone,.ro (.arr ys.length 1 (i64S ys))]) (fun j=>xs.length - j) 0 ⟨Nat.zero_le _,fun q hq=>absurd hq (Nat.not_lt_zero q)⟩ ?_ ?_ rfl ?_ ?_ rfl ?_
  ·exact k13_
  ·exact k5_
  ·exact k6_
  ·exact k6_
  have hlen:=hif
  rintro j ⟨hj,heq⟩
  repeat' (first|refine Ctl.h ?_ |((with_reducible intro hif);first |(focus (cases hif;done)) |((try simp only[JH]at hif);try exact hy_)) |((with_reducible first|apply J22 c1_ok za_|apply J23 fol c1_ok za_|apply J24);(·rfl);(· (simp only[push_cast,↓JP,Nat.reduceAdd,Nat.reduceEqDiff,Nat.reduceLT,Nat.reduceMul,Nat.reduceLeDiff,reduceCtorEq,reduceIte,i64S,i64S,inN];rfl));(try kernel_rfl);try exact k15_)|fail)
  ·have hne:xs≠ys:=by rintro rfl;simp at hif
   apply At.endsRet za_ (fn:=Try.f53) (rs:=[.tmp 4]) Anc.refl hro (lb_ rfl) rfl
   ·exact k3_
   ·exact k4_
   ·exact k5_
   ·rfl
   ·exact k6_
   ·exact k7_
   ·rw[eqL_false hne];exact fun β=>rfl
   ·exact k6_
  ·have hq:xs.getD j 0=ys.getD j 0:=hif
   refine At.next (j+1) ?_ ?_ ?_ rfl ?_ ?_ rfl
   ·refine⟨⟨by omega,fun q hq'=>?_⟩,by omega⟩;by_cases e:q=j;(rw[e];exact hq);exact heq q (by omega)
   ·exact k13_
   ·exact k5_
   ·exact k6_
   ·exact k6_
  ·have hjn:j=xs.length:=by omega
   subst hjn
   have he:xs=ys:=ext_getD 0 hlen heq
   apply At.endsRet za_ (fn:=Try.f53) (rs:=[.tmp 4]) Anc.refl hro (lb_ rfl) rfl
   ·exact k3_
   ·exact k4_
   ·exact k5_
   ·rfl
   ·exact k6_
   ·exact k7_
   ·rw[eqL_true he];exact fun β=>rfl
   ·exact k6_
def sEqZ:Spec:=fun args h m=>match args with
 | [v1,v2]=>match srcV h 1 (.tup []) v1,srcV h 1 (.tup []) v2 with
  | some (c1,n1,f1,r1),some (c2,n2,f2,r2)=>some (c1∧c2∧(∀q,q < n1→isI .i64 (f1 q)=true)∧(∀q,q < n2→isI .i64 (f2 q)=true)∧((ls iOf n1 f1).length≤281474976710656),.bool (eqL (ls iOf n1 f1) (ls iOf n2 f2)),r1++r2,[])
  | _,_=>none
 | _=>none
theorem sEqZ_ok:zs_ Try.prog 53 sEqZ:=by
 refine⟨zp_ (by kernel_rfl),fun args h m c v rd wr hs hm hc w0 M β h' w R hrd hwr hst=>?_⟩
 unfold sEqZ at hs
 split at hs
 ·rename_i v1 v2
  split at hs
  ·rename_i c1 n1 f1 r1 c2 n2 f2 r2 a1 a2
   simp only[Option.some.injEq,Prod.mk.injEq]at hs
   obtain⟨rfl,rfl,rfl,rfl⟩:=hs
   obtain⟨k1,k2,g1,g2,y1⟩:=hc
   obtain⟨A1,p1,d1,e1,t1⟩:=yn_ R a1 k1 (fun i hi=>hrd i (List.mem_append_left _ hi)) (by omega)
   obtain⟨A2,p2,d2,e2,t2⟩:=yn_ R a2 k2 (fun i hi=>hrd i (List.mem_append_right _ hi)) (by omega)
   refine callRo (views:=[⟨1,(ls iOf n1 f1).length,i64S (ls iOf n1 f1),A1,p1⟩,⟨1,(ls iOf n2 f2).length,i64S (ls iOf n2 f2),A2,p2⟩]) (eqZ_lit (ls iOf n1 f1) (ls iOf n2 f2) p1 p2 y1) ?_ R hm hwr ?_ ?_ ?_
   ·intro x hx
    simp only[List.mem_cons,List.not_mem_nil,or_false]at hx
    rcases hx with rfl|rfl
    ·exact viewI64 t1 e1 g1
    ·exact viewI64 t2 e2 g2
   ·intro β1 hv
    simp only[Vd,zi_,and_true]at hv
    obtain⟨z1,z2⟩:=hv
    simp only[denL,aggDen,intDen,natDen,yr_,zi_,z1,z2,d1,d2]
   ·exact k6_
   ·exact k6_
  ·cases hs
 ·cases hs
end Go.Proofs.Ytmljmabbopkpiaa.Vm
end
section
namespace Go.Proofs.Ytmljmabbopkpiaa.Vm
open Go.RowKit
def P1:List Ins:=[⟨3,3,0,0,5⟩,⟨5,4,3,0,0⟩,⟨1,0,0,0,0⟩]
def P2:List Ins:=[⟨10,3,0,0,2⟩,⟨5,0,3,0,0⟩,⟨1,0,0,0,0⟩]
def P3:List Ins:=[⟨3,1,0,0,0⟩,⟨36,2,0,1,0⟩,⟨5,0,0,0,0⟩,⟨1,0,0,0,0⟩]
def P4:List Ins:=[⟨3,0,0,0,3⟩,⟨8,0,1,0,2⟩,⟨1,0,0,0,0⟩]
def P5:List Ins:=[⟨3,3,0,0,1⟩,⟨33,3,3,3,0⟩,⟨10,0,0,0,1⟩,⟨1,0,0,0,0⟩]
theorem p1_eq:([⟨3,3,0,0,5⟩,⟨5,4,3,0,0⟩,⟨1,0,0,0,0⟩]:List Ins)=P1:=rfl
theorem p2_eq:([⟨10,3,0,0,2⟩,⟨5,0,3,0,0⟩,⟨1,0,0,0,0⟩]:List Ins)=P2:=rfl
theorem p3_eq:([⟨3,1,0,0,0⟩,⟨36,2,0,1,0⟩,⟨5,0,0,0,0⟩,⟨1,0,0,0,0⟩]:List Ins)=P3:=rfl
theorem p4_eq:([⟨3,0,0,0,3⟩,⟨8,0,1,0,2⟩,⟨1,0,0,0,0⟩]:List Ins)=P4:=rfl
theorem p5_eq:([⟨3,3,0,0,1⟩,⟨33,3,3,3,0⟩,⟨10,0,0,0,1⟩,⟨1,0,0,0,0⟩]:List Ins)=P5:=rfl
theorem p1_len:P1.length=3:=rfl
theorem p2_len:P2.length=3:=rfl
theorem p3_len:P3.length=4:=rfl
theorem p4_len:P4.length=3:=rfl
theorem p5_len:P5.length=4:=rfl
def okB (i:Ins):Bool:=decide (0≤i.op) && (decide (i.op≤255) && (decide (0≤i.a) && (decide (i.a≤255) && (decide (0≤i.b) && (decide (i.b≤255) && (decide (0≤i.c) && (decide (i.c≤255) && (decide (-9223372036854775808≤i.n) && decide (i.n≤9223372036854775807)))))))))
theorem okB_ok {p:List Ins}(h:p.all okB=true):∀x∈p,x.ok:=fun x hx=>by
 have:=List.all_eq_true.1 h x hx
 simp only[okB,Bool.and_eq_true,decide_eq_true_eq]at this
 obtain⟨h0,h1,h2,h3,h4,h5,h6,h7,h8,h9⟩:=this
 exact⟨h0,h1,h2,h3,h4,h5,h6,h7,h8,h9⟩
theorem p1_ok:∀x∈P1,x.ok:=okB_ok rfl
theorem p2_ok:∀x∈P2,x.ok:=okB_ok rfl
theorem p3_ok:∀x∈P3,x.ok:=okB_ok rfl
theorem p4_ok:∀x∈P4,x.ok:=okB_ok rfl
theorem p5_ok:∀x∈P5,x.ok:=okB_ok rfl
theorem p1_chk:(z7_ P1).2=0:=by kernel_rfl
theorem p2_chk:(z7_ P2).2=0:=by kernel_rfl
theorem p3_chk:(z7_ P3).2=0:=by kernel_rfl
theorem p4_chk:(z7_ P4).2=0:=by kernel_rfl
theorem p5_chk:(z7_ P5).2=0:=by kernel_rfl
theorem a1:chkR P1 (z1_ P1) 5 0 1=(1,172):=by kernel_rfl
theorem a2:chkR P1 (z1_ P1) 6 0 1=(-1,0):=by kernel_rfl
theorem a3:z2_ P1 (z1_ P1) 3=(6,0):=by kernel_rfl
theorem a4:doomK P2 (z1_ P2) 0 0 1 3=[]:=by kernel_rfl
theorem a5:doomK P3 (z1_ P3) 0 0 1 3=[1]:=by kernel_rfl
theorem a5':doomK P3 (z1_ P3) 0 0 1 4=[1]:=by kernel_rfl
theorem a6:whyR P3 0 0 1 1=(131,0):=by kernel_rfl
theorem a7:ftB (z6_ (z1_ P3) 2) F0=true:=by kernel_rfl
theorem a8:chkR P4 (z1_ P4) 0 2 4=(1,173):=by kernel_rfl
theorem a9:chkR P4 (z1_ P4) 0 3 4=(1,174):=by kernel_rfl
theorem a10:(z6_ (z1_ P5) 1).reached=true:=by kernel_rfl
theorem a11:((z6_ (z1_ P5) 1).regs 3).is_=false:=by kernel_rfl
theorem a12:(z6_ (z1_ P5) 1).regs 4=⟨true,0⟩:=by kernel_rfl
end Go.Proofs.Ytmljmabbopkpiaa.Vm
end

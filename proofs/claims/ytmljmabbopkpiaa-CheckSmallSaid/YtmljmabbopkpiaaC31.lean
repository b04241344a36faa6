import Derived.Test.YtmljmabbopkpiaaC1
import Derived.Test.YtmljmabbopkpiaaC29
import Derived.Test.YtmljmabbopkpiaaC30
set_option linter.unusedSimpArgs false
set_option linter.unusedVariables false
set_option maxRecDepth 100000
set_option maxHeartbeats 4000000
section
open Go.Proofs.Ytmljmabbopkpiaa.Vm Go.RowKit
attribute [local push_cast] eqB eqBL allB prS sndsS zw_ nav_ins xs_ xr_ xq_ xp_ xo_ nav_snd xn_ xm_ xl_ yo_ yi_ yv_ yq_ yz_ yy_ iOf nav_k nav_k0 nav_k1 nav_ka nav_kai nav_ft nav_ft0 nav_ft1 isKn_kS knOf_kS isKa_kaS kaOf_kaS isFt_ftS ftOf_ftS setp_ka setp_ftk setp_ftr setp_fti evm_ins evm_snd evm_k evm_ka evm_ft
section
namespace Go.Proofs.Ytmljmabbopkpiaa.Vm
open Go.RowKit
def whyR (xs:List Ins)(c p l i:Int):Int×Int:=if fitE xs c p l≠0 then(0,fitE xs c p l)else if i < 0∨xs.length≤i then(0,2)else(y5_ c p l (xs.getD i.toNat ⟨0,0,0,0,0⟩) (zs_ (zr_ xs) i.toNat),0)
theorem Why_lit (xs:List Ins)(p1:Nat)(c p l i:Int)(hx:∀x∈xs,x.ok)(hl:xs.length≤281474976710656):zz_ Try.prog 22 [.sl 1 2 [] 5 0 xs.length (some p1),.agg [.int .i64 c,.int .i64 p,.int .i64 l],.int .i64 i] [.gone,.gone,.ro (.arr xs.length 5 (prS xs))] (.tup [.int .i64 (whyR xs c p l i).1,.int .i64 (whyR xs c p l i).2]) [.gone]:=by
 refine zf_ (fn:=Try.f22) 3 34 0 rfl rfl rfl rfl rfl u3_ rfl fun w0 M E hro=>?_
 by_cases h1:fitE xs c p l=0
 ·by_cases h2:i < 0
  ·have e:whyR xs c p l i=(0,2):=by unfold whyR;rw[if_neg (fun h=>h h1),if_pos (.inl h2)]
   rw[e]
   repeat' (first|refine Ctl.h ?_ |((with_reducible intro hif);first |(focus (cases hif;done)) |((try simp only[JH]at hif);try exact hy_)) |((with_reducible first|apply J22 cWh_ok za_|apply J23 fol cWh_ok za_|apply J24);(·rfl);(· (simp only[push_cast,↓JP,Nat.reduceAdd,Nat.reduceEqDiff,Nat.reduceLT,Nat.reduceMul,Nat.reduceLeDiff,reduceCtorEq,reduceIte,↓JK,↓JF,cWh,sFits,y9_,yt_,ys_,h1,h2];rfl));(try kernel_rfl);try exact k20_)|fail)
   apply At.endsRet za_ (fn:=Try.f22) (rs:=[.tmp 6,.tmp 7]) Anc.refl hro (lb_ rfl) rfl
   ·exact k3_
   ·exact k4_
   ·exact k5_
   ·rfl
   ·exact k6_
   ·exact k7_
   ·exact fun β=>rfl
   ·exact k6_
  ·by_cases h3:(xs.length:Int)≤i
   ·have e:whyR xs c p l i=(0,2):=by unfold whyR;rw[if_neg (fun h=>h h1),if_pos (.inr h3)]
    rw[e]
    repeat' (first|refine Ctl.h ?_ |((with_reducible intro hif);first |(focus (cases hif;done)) |((try simp only[JH]at hif);try exact hy_)) |((with_reducible first|apply J22 cWh_ok za_|apply J23 fol cWh_ok za_|apply J24);(·rfl);(· (simp only[push_cast,↓JP,Nat.reduceAdd,Nat.reduceEqDiff,Nat.reduceLT,Nat.reduceMul,Nat.reduceLeDiff,reduceCtorEq,reduceIte,↓JK,↓JF,cWh,sFits,y9_,yt_,ys_,h1,h2,h3];rfl));(try kernel_rfl);try exact k20_)|fail)
    apply At.endsRet za_ (fn:=Try.f22) (rs:=[.tmp 6,.tmp 7]) Anc.refl hro (lb_ rfl) rfl
    ·exact k3_
    ·exact k4_
    ·exact k5_
    ·rfl
    ·exact k6_
    ·exact k7_
    ·exact fun β=>rfl
    ·exact k6_
   ·have hc:(zu_ xs).2=0:=by
     unfold fitE at h1
     by_cases q:(zu_ xs).2=0
     ·exact q
     ·rw[if_neg q]at h1;cases h1
    have hk:i.toNat < xs.length:=by omega
    obtain⟨x,hX⟩:∃x,xs.getD i.toNat ⟨0,0,0,0,0⟩=x:=⟨_,rfl⟩
    have hR:=right_at hx hc hk
    rw[hX]at hR
    have hok:=hR.ok
    have ha8:=hR.a
    have hb8:=hR.b
    have hc8:=hR.c
    have e:whyR xs c p l i=(y5_ c p l x (zs_ (zr_ xs) i.toNat),0):=by unfold whyR;rw[if_neg (fun h=>h h1),if_neg (by omega),hX]
    rw[e]
    repeat' (first|refine Ctl.h ?_ |((with_reducible intro hif);first |(focus (cases hif;done)) |((try simp only[JH]at hif);try exact hy_)) |((with_reducible first|apply J22 cWh_ok za_|apply J23 fol cWh_ok za_|apply J24);(·rfl);(· (simp only[push_cast,↓JP,Nat.reduceAdd,Nat.reduceEqDiff,Nat.reduceLT,Nat.reduceMul,Nat.reduceLeDiff,reduceCtorEq,reduceIte,↓JK,↓JF,cWh,sFits,sFactsI,sWhyL,y9_,yt_,ys_,y0_,h1,h2,h3,hX,hc];rfl));(try kernel_rfl);try exact k9_)|fail)
    apply At.endsRet za_ (fn:=Try.f22) (rs:=[.tmp 6,.tmp 7]) Anc.refl hro (lb_ rfl) rfl
    ·exact k3_
    ·exact k4_
    ·exact k5_
    ·rfl
    ·exact k6_
    ·exact k7_
    ·exact fun β=>rfl
    ·exact k6_
 ·have e:whyR xs c p l i=(0,fitE xs c p l):=by unfold whyR;rw[if_pos h1]
  rw[e]
  repeat' (first|refine Ctl.h ?_ |((with_reducible intro hif);first |(focus (cases hif;done)) |((try simp only[JH]at hif);try exact hy_)) |((with_reducible first|apply J22 cWh_ok za_|apply J23 fol cWh_ok za_|apply J24);(·rfl);(· (simp only[push_cast,↓JP,Nat.reduceAdd,Nat.reduceEqDiff,Nat.reduceLT,Nat.reduceMul,Nat.reduceLeDiff,reduceCtorEq,reduceIte,↓JK,↓JF,cWh,sFits,y9_,yt_,ys_,h1];rfl));(try kernel_rfl);try exact k20_)|fail)
  apply At.endsRet za_ (fn:=Try.f22) (rs:=[.tmp 6,.tmp 7]) Anc.refl hro (lb_ rfl) rfl
  ·exact k3_
  ·exact k4_
  ·exact k5_
  ·rfl
  ·exact k6_
  ·exact k7_
  ·exact fun β=>rfl
  ·exact k6_
def sWhy17:y4_:=fun args h m=>match args with
 | [v1,.agg [v2,v3,v4],v5]=>match srcV h 5 (.tup []) v1 with
  | some (c1,n1,f1,r1)=>bif isI .i64 v2 && isI .i64 v3 && isI .i64 v4 && isI .i64 v5 then some (c1∧(∀q,q < n1→xt_ (f1 q)=true)∧((∀x∈(ls zd_ n1 f1),x.ok))∧(n1≤281474976710656),.tup [.int .i64 (whyR (ls zd_ n1 f1) (iOf v2) (iOf v3) (iOf v4) (iOf v5)).1,.int .i64 (whyR (ls zd_ n1 f1) (iOf v2) (iOf v3) (iOf v4) (iOf v5)).2],r1,[])else none
  | _=>none
 | _=>none
theorem sWhy17_ok:zm_ Try.prog 22 sWhy17:=by
 refine⟨zg_ (by kernel_rfl),fun args h m c v rd wr hs hm hc w0 M β h' w R hrd hwr hst=>?_⟩
 unfold sWhy17 at hs
 split at hs
 ·rename_i v1 v2 v3 v4 v5
  split at hs
  ·rename_i c1 n1 f1 r1 a1
   obtain⟨hb,hs⟩:=zn_ hs
   simp only[Option.some.injEq,Prod.mk.injEq]at hs
   obtain⟨rfl,rfl,rfl,rfl⟩:=hs
   simp only[Bool.and_eq_true]at hb
   obtain⟨⟨⟨b2,b3⟩,b4⟩,b5⟩:=hb
   obtain⟨k1,g1,y1,y2⟩:=hc
   obtain⟨A1,p1,d1,e1,t1⟩:=zp_ R a1 k1 (fun i hi=>hrd i hi) (by omega)
   refine yb_ (views:=[⟨5,(ls zd_ n1 f1).length,prS (ls zd_ n1 f1),A1,p1⟩]) (Why_lit (ls zd_ n1 f1) p1 (iOf v2) (iOf v3) (iOf v4) (iOf v5) y1 (by rw[zc_];exact y2)) ?_ R hm hwr ?_ ?_ ?_
   ·exact d20_
   ·exact d38_
   ·exact k6_
   ·exact k6_
  ·cases hs
 ·cases hs
def whyK (xs:List Ins)(F:List Ft)(c p l:Int)(k:Nat):Int:=y5_ c p l (xs.getD k ⟨0,0,0,0,0⟩) (zs_ F k)
def badB (xs:List Ins)(F:List Ft)(c p l:Int)(k:Nat):Bool:=decide (whyK xs F c p l k≠0) && decide (whyK xs F c p l k≠176)
def chkR (xs:List Ins)(F:List Ft)(c p l:Int):Int×Int:=match (List.range xs.length).find? (badB xs F c p l)with
 | some k=>((k:Int),whyK xs F c p l k)
 | none=>(-1,0)
theorem chkR_some {xs:List Ins}{F:List Ft}{c p l:Int}{k:Nat}(hk:k < xs.length)(h:badB xs F c p l k=true)(hm:∀j,j < k→badB xs F c p l j=false):chkR xs F c p l=((k:Int),whyK xs F c p l k):=by
 have e:(List.range xs.length).find? (badB xs F c p l)=some k:=by
  rw[List.find?_range_eq_some]
  exact⟨h,List.mem_range.2 hk,fun j hj=>by rw[hm j hj];rfl⟩
 unfold chkR
 rw[e]
theorem chkR_none {xs:List Ins}{F:List Ft}{c p l:Int}(hm:∀j,j < xs.length→badB xs F c p l j=false):chkR xs F c p l=(-1,0):=by
 have e:(List.range xs.length).find? (badB xs F c p l)=none:=by
  rw[List.find?_eq_none]
  intro j hj
  rw[hm j (List.mem_range.1 hj)]
  decide
 unfold chkR
 rw[e]
theorem Check_lit (xs:List Ins)(p1:Nat)(c p l:Int)(hx:∀x∈xs,x.ok)(hc:(zu_ xs).2=0)(hl:limB c p l=true):zz_ Try.prog 35 [.sl 1 2 [] 5 0 xs.length (some p1),.agg [.int .i64 c,.int .i64 p,.int .i64 l]] [.gone,.gone,.ro (.arr xs.length 5 (prS xs))]
  (.tup [.int .i64 (chkR xs (zr_ xs) c p l).1,.int .i64 (chkR xs (zr_ xs) c p l).2]) [.gone]:=by
 refine zf_ (fn:=Try.f35) 3 24 0 rfl rfl rfl rfl rfl u3_ rfl fun w0 M E hro=>?_
 have hl6:xs.length≤256:=(yr_ hc).2.1
 have hfit:fitE xs c p l=0:=by unfold fitE;rw[if_pos hc,if_pos hl]
 obtain⟨F,hF⟩:∃F,F=zr_ xs:=⟨_,rfl⟩
 rw[←hF]
 repeat' (first|refine Ctl.h ?_ |((with_reducible intro hif);first |(focus (cases hif;done)) |((try simp only[JH]at hif);try exact hy_)) |((with_reducible first|apply J22 zi_ za_|apply J23 fol zi_ za_|apply J24);(·rfl);(· exact k117_);(try kernel_rfl);try exact k116_)|fail)
 with_reducible apply WF.range (fn':=Try.f117) 32
 ·exact k77_
 ·exact k39_
 ·rfl
 ·rfl
 ·rfl
 ·rfl
 ·rfl
 ·rfl
 ·rfl
 intro E1 rec tmps after hE1 hrec hcf haft
 repeat' (first|refine Ctl.h ?_ |((with_reducible intro hif);first |(focus (cases hif;done)) |((try simp only[JH]at hif);try exact hy_)) |((with_reducible first|apply J22 zi_ za_|apply J23 fol zi_ za_|apply J24);(·rfl);(· exact k118_);(try kernel_rfl);try exact k9_)|fail)
 refine WF.loopAt (fun k=>k≤xs.length∧∀j,j < k→badB xs F c p l j=false) (fun k=>[(0,.yl 9),(1,.ptr 7 []),(2,.ptr 6 []),(8,.sl 10 10 [] 17 0 xs.length none),(9,.nat .i64 xs.length),(10,.nat .i64 k)]) (fun k=>[.gone,.gone,.ro (.arr xs.length 5 (prS xs)),.gone,.own 3 (.nat .i64 0) true,.own 32 (.nat .i64 0) true,.own 31 (.agg [.int .i64 c,.int .i64 p,.int .i64 l]) true,.own 25 (.sl 1 2 [] 5 0 xs.length (some p1)) true,.raw (.deferred (some [])),.raw (.loop (rec .ready none)),.own 44 (.arr xs.length 17 (y0_ F)) false]) (fun k=>xs.length - k) 0 ⟨Nat.zero_le _,fun j hj=>absurd hj (Nat.not_lt_zero j)⟩ ?_ ?_ rfl ?_ ?_ rfl ?_
 ·exact k8_
 ·exact k5_
 ·exact x5_
 ·exact x5_
 ·rintro k ⟨hk,hno⟩
  by_cases hkl:k < xs.length
  ·obtain⟨x,hX⟩:∃x,xs.getD k ⟨0,0,0,0,0⟩=x:=⟨_,rfl⟩
   have hR:=right_at hx hc hkl
   rw[hX]at hR
   have hok:=hR.ok
   have ha8:=hR.a
   have hb8:=hR.b
   have hc8:=hR.c
   have hW:whyK xs F c p l k=y5_ c p l x (zs_ F k):=by unfold whyK;rw[hX]
   have nxt:badB xs F c p l k=false→∀j,j < k+1→badB xs F c p l j=false:=fun h j hj=>by
    by_cases q:j=k
    ·rw[q];exact h
    ·exact hno j (by omega)
   by_cases he:y5_ c p l x (zs_ F k)=0
   ·have hb:=nxt (by unfold badB;rw[hW,he];rfl)
    repeat' (first|refine Ctl.h ?_ |((with_reducible intro hif);first |(focus (cases hif;done)) |((try simp only[JH]at hif);try exact hy_)) |((with_reducible first|apply J22 zi_ za_|apply J23 fol zi_ za_|apply J24);(·rfl);(· exact k119_);(try kernel_rfl);try exact k85_)|fail)
    refine At.next (k+1) ?_ ?_ ?_ rfl ?_ ?_ rfl
    ·exact⟨⟨hkl,hb⟩,by omega⟩
    ·exact k8_
    ·exact k5_
    ·exact x5_
    ·exact x5_
   ·by_cases hf:y5_ c p l x (zs_ F k)=176
    ·have hb:=nxt (by unfold badB;rw[hW,hf];rfl)
     have h176:¬((176:Int)=0):=by decide
     repeat' (first|refine Ctl.h ?_ |((with_reducible intro hif);first |(focus (cases hif;done)) |((try simp only[JH]at hif);try exact hy_)) |((with_reducible first|apply J22 zi_ za_|apply J23 fol zi_ za_|apply J24);(·rfl);(· (simp only[push_cast,↓JP,Nat.reduceAdd,Nat.reduceEqDiff,Nat.reduceLT,Nat.reduceMul,Nat.reduceLeDiff,reduceCtorEq,reduceIte,↓JK,↓JF,cWys,sWhyL,y0_,hX,inN,hkl,hf,h176];rfl));(try kernel_rfl);try exact k85_)|fail)
     with_reducible apply WF.split 6 2
     ·rfl
     with_reducible apply At.run zi_ za_
     ·rfl
     ·rfl
     ·rfl
     ·exact k125_
     ·exact k112_
     with_reducible apply At.yield (gr:=_)
     ·rfl
     ·rfl
     ·rfl
     ·rfl
     ·rfl
     ·rfl
     ·exact k125_
     ·exact k126_
     ·exact k125_
     ·exact k112_
     ·exact k125_
     ·exact k112_
     ·exact k126_
     ·exact hrec
     ·exact hcf
     ·rfl
     ·rfl
     ·rfl
     intro lb E2 next hE2 hnext
     repeat' (first|refine Ctl.h ?_ |((with_reducible intro hif);first |(focus (cases hif;done)) |((try simp only[JH]at hif);try exact hy_)) |((with_reducible first|apply J22 zi_ za_|apply J23 fol zi_ za_|apply J24);(·rfl);(· exact k129_);(try kernel_rfl);try exact k85_)|fail)
     with_reducible apply At.begins hrec
     ·rfl
     with_reducible refine At.code ?_
     repeat' (first|refine Ctl.h ?_ |((with_reducible intro hif);first |(focus (cases hif;done)) |((try simp only[JH]at hif);try exact hy_)) |((with_reducible first|apply J22 zi_ za_|apply J23 fol zi_ za_|apply J24);(·rfl);(· exact k129_);(try kernel_rfl);try exact k85_)|fail)
     with_reducible apply At.roundNormal
     ·first|rfl |(simp only[push_cast,↓JP,Nat.reduceAdd,Nat.reduceEqDiff,Nat.reduceLT,Nat.reduceMul,Nat.reduceLeDiff,reduceCtorEq,reduceIte,↓JK,↓JF,noDefer,List.drop_zero,List.drop_succ_cons,cWys,inN,hf];done)
     apply hnext
     with_reducible apply At.runEnd zi_ za_
     ·rfl
     ·rfl
     ·rfl
     ·simp only[push_cast,↓JP,Nat.reduceAdd,Nat.reduceEqDiff,Nat.reduceLT,Nat.reduceMul,Nat.reduceLeDiff,reduceCtorEq,reduceIte,↓JK,↓JF,noDefer,List.drop_zero,List.drop_succ_cons,cWys,inN,hf];rfl
     ·exact k112_
     repeat' (first|refine Ctl.h ?_ |((with_reducible intro hif);first |(focus (cases hif;done)) |((try simp only[JH]at hif);try exact hy_)) |((with_reducible first|apply J22 zi_ za_|apply J23 fol zi_ za_|apply J24);(·rfl);(· exact k129_);(try kernel_rfl);try exact k85_)|fail)
     refine At.next (k+1) ?_ ?_ ?_ rfl ?_ ?_ rfl
     ·exact⟨⟨hkl,hb⟩,by omega⟩
     ·exact k8_
     ·exact k5_
     ·exact x5_
     ·exact x5_
    ·have hb:chkR xs F c p l=((k:Int),y5_ c p l x (zs_ F k)):=by rw[chkR_some hkl (by unfold badB;rw[hW];simp[he,hf]) hno,hW]
     repeat' (first|refine Ctl.h ?_ |((with_reducible intro hif);first |(focus (cases hif;done)) |((try simp only[JH]at hif);try exact hy_)) |((with_reducible first|apply J22 zi_ za_|apply J23 fol zi_ za_|apply J24);(·rfl);(· (simp only[push_cast,↓JP,Nat.reduceAdd,Nat.reduceEqDiff,Nat.reduceLT,Nat.reduceMul,Nat.reduceLeDiff,reduceCtorEq,reduceIte,↓JK,↓JF,cWys,sWhyL,y0_,hX,inN,hkl,he,hf];rfl));(try kernel_rfl);try exact k85_)|fail)
     with_reducible apply WF.split 6 2
     ·rfl
     with_reducible apply At.run zi_ za_
     ·rfl
     ·rfl
     ·rfl
     ·exact k127_
     ·exact k112_
     with_reducible apply At.yield (gr:=_)
     ·rfl
     ·rfl
     ·rfl
     ·rfl
     ·rfl
     ·rfl
     ·exact k127_
     ·exact k128_
     ·exact k127_
     ·exact k112_
     ·exact k127_
     ·exact k112_
     ·exact k128_
     ·exact hrec
     ·exact hcf
     ·rfl
     ·rfl
     ·rfl
     intro lb E2 next hE2 hnext
     repeat' (first|refine Ctl.h ?_ |((with_reducible intro hif);first |(focus (cases hif;done)) |((try simp only[JH]at hif);try exact hy_)) |((with_reducible first|apply J22 zi_ za_|apply J23 fol zi_ za_|apply J24);(·rfl);(· exact k130_);(try kernel_rfl);try exact k85_)|fail)
     with_reducible apply At.begins hrec
     ·rfl
     with_reducible refine At.code ?_
     repeat' (first|refine Ctl.h ?_ |((with_reducible intro hif);first |(focus (cases hif;done)) |((try simp only[JH]at hif);try exact hy_)) |((with_reducible first|apply J22 zi_ za_|apply J23 fol zi_ za_|apply J24);(·rfl);(· exact k130_);(try kernel_rfl);try exact k85_)|fail)
     with_reducible apply At.roundRet
     ·exact k128_
     apply hnext
     with_reducible apply At.runEnd zi_ za_
     ·rfl
     ·rfl
     ·rfl
     ·exact k127_
     ·exact k112_
     repeat' (first|refine Ctl.h ?_ |((with_reducible intro hif);first |(focus (cases hif;done)) |((try simp only[JH]at hif);try exact hy_)) |((with_reducible first|apply J22 zi_ za_|apply J23 fol zi_ za_|apply J24);(·rfl);(· exact k130_);(try kernel_rfl);try exact k85_)|fail)
     with_reducible apply At.itRet .done
     ·rfl
     ·rfl
     ·intro h;cases h
     apply haft
     intro w1 M1 D1 hA
     dsimp only
     rw[hb]
     repeat' (first|refine Ctl.h ?_ |((with_reducible intro hif);first |(focus (cases hif;done)) |((try simp only[JH]at hif);try exact hy_)) |((with_reducible first|apply J22 zi_ za_|apply J23 fol zi_ za_|apply J24);(·rfl);(· exact k122_);(try kernel_rfl);try exact k85_)|fail)
     apply At.endsRet za_ (fn:=Try.f35) (rs:=[.cell 4 3,.cell 5 32]) hA hro (lb_ rfl) rfl
     ·exact k3_
     ·exact k4_
     ·exact k5_
     ·rfl
     ·exact x5_
     ·exact k7_
     ·exact fun β=>rfl
     ·exact x5_
  ·obtain rfl:k=xs.length:=by omega
   have hb:=chkR_none hno
   repeat' (first|refine Ctl.h ?_ |((with_reducible intro hif);first |(focus (cases hif;done)) |((try simp only[JH]at hif);try exact hy_)) |((with_reducible first|apply J22 zi_ za_|apply J23 fol zi_ za_|apply J24);(·rfl);(· exact k122_);(try kernel_rfl);try exact k85_)|fail)
   with_reducible apply At.itNormal .ready
   ·rfl
   ·rfl
   ·intro h;cases h
   apply haft
   intro w1 M1 D1 hA
   dsimp only
   rw[hb]
   repeat' (first|refine Ctl.h ?_ |((with_reducible intro hif);first |(focus (cases hif;done)) |((try simp only[JH]at hif);try exact hy_)) |((with_reducible first|apply J22 zi_ za_|apply J23 fol zi_ za_|apply J24);(·rfl);(· exact k122_);(try kernel_rfl);try exact k85_)|fail)
   apply At.endsRet za_ (fn:=Try.f35) (rs:=[.cell 4 3,.cell 5 32]) hA hro (lb_ rfl) rfl
   ·exact k3_
   ·exact k4_
   ·exact k5_
   ·rfl
   ·exact x5_
   ·exact k7_
   ·exact fun β=>rfl
   ·exact x5_
def sChk17:y4_:=fun args h m=>match args with
 | [v1,.agg [v2,v3,v4]]=>match srcV h 5 (.tup []) v1 with
  | some (c1,n1,f1,r1)=>bif isI .i64 v2 && isI .i64 v3 && isI .i64 v4 then some (c1∧(∀q,q < n1→xt_ (f1 q)=true)∧((∀x∈(ls zd_ n1 f1),x.ok))∧((zu_ (ls zd_ n1 f1)).2=0)∧(limB (iOf v2) (iOf v3) (iOf v4)=true),.tup [.int .i64 (chkR (ls zd_ n1 f1) (zr_ (ls zd_ n1 f1)) (iOf v2) (iOf v3) (iOf v4)).1,.int .i64 (chkR (ls zd_ n1 f1) (zr_ (ls zd_ n1 f1)) (iOf v2) (iOf v3) (iOf v4)).2],r1,[])else none
  | _=>none
 | _=>none
theorem sChk17_ok:zm_ Try.prog 35 sChk17:=by
 refine⟨zg_ (by kernel_rfl),fun args h m c v rd wr hs hm hc w0 M β h' w R hrd hwr hst=>?_⟩
 unfold sChk17 at hs
 split at hs
 ·rename_i v1 v2 v3 v4
  split at hs
  ·rename_i c1 n1 f1 r1 a1
   obtain⟨hb,hs⟩:=zn_ hs
   simp only[Option.some.injEq,Prod.mk.injEq]at hs
   obtain⟨rfl,rfl,rfl,rfl⟩:=hs
   simp only[Bool.and_eq_true]at hb
   obtain⟨⟨b2,b3⟩,b4⟩:=hb
   obtain⟨k1,g1,y1,y2,y3⟩:=hc
   obtain⟨A1,p1,d1,e1,t1⟩:=zp_ R a1 k1 (fun i hi=>hrd i hi) (by omega)
   refine yb_ (views:=[⟨5,(ls zd_ n1 f1).length,prS (ls zd_ n1 f1),A1,p1⟩]) (Check_lit (ls zd_ n1 f1) p1 (iOf v2) (iOf v3) (iOf v4) y1 y2 y3) ?_ R hm hwr ?_ ?_ ?_
   ·exact d20_
   ·exact d39_
   ·exact x5_
   ·exact x5_
  ·cases hs
 ·cases hs
theorem doomN_lit (xs:List Ins)(p1:Nat)(c p l:Int)(hx:∀x∈xs,x.ok)(hc:(zu_ xs).2=0)(hl:limB c p l=true)(hD:(yw_ xs (zr_ xs) c p l xs.length).isEmpty=true):zz_ Try.prog 34 [.sl 1 2 [] 5 0 xs.length (some p1),.agg [.int .i64 c,.int .i64 p,.int .i64 l]] [.gone,.gone,.ro (.arr xs.length 5 (prS xs))] (.tup [.sl 0 0 [] 0 0 0 (some 0),.int .i64 0]) [.gone,.gone,.gone,.own 3 (.arr (yw_ xs (zr_ xs) c p l xs.length).length 1 (zw_ (yw_ xs (zr_ xs) c p l xs.length))) false]:=by
 have:=Doomed_lit xs p1 c p l hx hc hl
 rwa [nilOr_t hD]at this
theorem doomS_lit (xs:List Ins)(p1:Nat)(c p l:Int)(hx:∀x∈xs,x.ok)(hc:(zu_ xs).2=0)(hl:limB c p l=true)(hD:(yw_ xs (zr_ xs) c p l xs.length).isEmpty=false):zz_ Try.prog 34 [.sl 1 2 [] 5 0 xs.length (some p1),.agg [.int .i64 c,.int .i64 p,.int .i64 l]] [.gone,.gone,.ro (.arr xs.length 5 (prS xs))] (.tup [.sl 3 3 [] 1 0 (yw_ xs (zr_ xs) c p l xs.length).length none,.int .i64 0]) [.gone,.gone,.gone,.own 3 (.arr (yw_ xs (zr_ xs) c p l xs.length).length 1 (zw_ (yw_ xs (zr_ xs) c p l xs.length))) false]:=by
 have:=Doomed_lit xs p1 c p l hx hc hl
 rwa [nilOr_f hD]at this
def sDoomN:y4_:=fun args h m=>match args with
 | [v1,.agg [v2,v3,v4]]=>match srcV h 5 (.tup []) v1 with
  | some (c1,n1,f1,r1)=>bif isI .i64 v2 && isI .i64 v3 && isI .i64 v4 then some (c1∧(∀q,q < n1→xt_ (f1 q)=true)∧((∀x∈(ls zd_ n1 f1),x.ok))∧((zu_ (ls zd_ n1 f1)).2=0)∧(limB (iOf v2) (iOf v3) (iOf v4)=true)∧((yw_ (ls zd_ n1 f1) (zr_ (ls zd_ n1 f1)) (iOf v2) (iOf v3) (iOf v4) (ls zd_ n1 f1).length).isEmpty=true),.tup [.sl 0 0 [] 0 0 0 (some 0),.int .i64 0],r1,[(m,.own 3 (.arr (yw_ (ls zd_ n1 f1) (zr_ (ls zd_ n1 f1)) (iOf v2) (iOf v3) (iOf v4) (ls zd_ n1 f1).length).length 1 (zw_ (yw_ (ls zd_ n1 f1) (zr_ (ls zd_ n1 f1)) (iOf v2) (iOf v3) (iOf v4) (ls zd_ n1 f1).length))) false)])else none
  | _=>none
 | _=>none
theorem sDoomN_ok:zm_ Try.prog 34 sDoomN:=by
 refine⟨zg_ (by kernel_rfl),fun args h m c v rd wr hs hm hc w0 M β h' w R hrd hwr hst=>?_⟩
 unfold sDoomN at hs
 split at hs
 ·rename_i v1 v2 v3 v4
  split at hs
  ·rename_i c1 n1 f1 r1 a1
   obtain⟨hb,hs⟩:=zn_ hs
   simp only[Option.some.injEq,Prod.mk.injEq]at hs
   obtain⟨rfl,rfl,rfl,rfl⟩:=hs
   simp only[Bool.and_eq_true]at hb
   obtain⟨⟨b2,b3⟩,b4⟩:=hb
   obtain⟨k1,g1,y1,y2,y3,y4⟩:=hc
   obtain⟨A1,p1,d1,e1,t1⟩:=zp_ R a1 k1 (fun i hi=>hrd i hi) (by omega)
   refine yb_ (views:=[⟨5,(ls zd_ n1 f1).length,prS (ls zd_ n1 f1),A1,p1⟩]) (doomN_lit (ls zd_ n1 f1) p1 (iOf v2) (iOf v3) (iOf v4) y1 y2 y3 y4) ?_ R hm hwr ?_ ?_ ?_
   ·exact d20_
   ·exact d39_
   ·exact x5_
   ·exact x5_
  ·cases hs
 ·cases hs
def sDoomS:y4_:=fun args h m=>match args with
 | [v1,.agg [v2,v3,v4]]=>match srcV h 5 (.tup []) v1 with
  | some (c1,n1,f1,r1)=>bif isI .i64 v2 && isI .i64 v3 && isI .i64 v4 then some (c1∧(∀q,q < n1→xt_ (f1 q)=true)∧((∀x∈(ls zd_ n1 f1),x.ok))∧((zu_ (ls zd_ n1 f1)).2=0)∧(limB (iOf v2) (iOf v3) (iOf v4)=true)∧((yw_ (ls zd_ n1 f1) (zr_ (ls zd_ n1 f1)) (iOf v2) (iOf v3) (iOf v4) (ls zd_ n1 f1).length).isEmpty=false),.tup [.sl m m [] 1 0 (yw_ (ls zd_ n1 f1) (zr_ (ls zd_ n1 f1)) (iOf v2) (iOf v3) (iOf v4) (ls zd_ n1 f1).length).length none,.int .i64 0],r1,[(m,.own 3 (.arr (yw_ (ls zd_ n1 f1) (zr_ (ls zd_ n1 f1)) (iOf v2) (iOf v3) (iOf v4) (ls zd_ n1 f1).length).length 1 (zw_ (yw_ (ls zd_ n1 f1) (zr_ (ls zd_ n1 f1)) (iOf v2) (iOf v3) (iOf v4) (ls zd_ n1 f1).length))) false)])else none
  | _=>none
 | _=>none
theorem sDoomS_ok:zm_ Try.prog 34 sDoomS:=by
 refine⟨zg_ (by kernel_rfl),fun args h m c v rd wr hs hm hc w0 M β h' w R hrd hwr hst=>?_⟩
 unfold sDoomS at hs
 split at hs
 ·rename_i v1 v2 v3 v4
  split at hs
  ·rename_i c1 n1 f1 r1 a1
   obtain⟨hb,hs⟩:=zn_ hs
   simp only[Option.some.injEq,Prod.mk.injEq]at hs
   obtain⟨rfl,rfl,rfl,rfl⟩:=hs
   simp only[Bool.and_eq_true]at hb
   obtain⟨⟨b2,b3⟩,b4⟩:=hb
   obtain⟨k1,g1,y1,y2,y3,y4⟩:=hc
   obtain⟨A1,p1,d1,e1,t1⟩:=zp_ R a1 k1 (fun i hi=>hrd i hi) (by omega)
   refine yb_ (views:=[⟨5,(ls zd_ n1 f1).length,prS (ls zd_ n1 f1),A1,p1⟩]) (doomS_lit (ls zd_ n1 f1) p1 (iOf v2) (iOf v3) (iOf v4) y1 y2 y3 y4) ?_ R hm hwr ?_ ?_ ?_
   ·exact d20_
   ·exact d39_
   ·exact x5_
   ·exact x5_
  ·cases hs
 ·cases hs
theorem callOk_or {P:Program}{f:FuncId}{S1 S2:y4_}(b:List SV→HM→Bool)(h1:zm_ P f S1)(h2:zm_ P f S2):zm_ P f (fun args h m=>bif b args h then S1 args h m else S2 args h m):=by
 refine⟨h1.1,fun args h m c v rd wr hs=>?_⟩
 cases hb:b args h
 ·simp only[hb,cond_false]at hs;exact h2.2 args h m c v rd wr hs
 ·simp only[hb,cond_true]at hs;exact h1.2 args h m c v rd wr hs
def doomE (args:List SV)(h:HM):Bool:=match args with
 | [v,.agg [v2,v3,v4]]=>match srcV h 5 (.tup []) v with
  | some (_,n,f,_)=>(yw_ (ls zd_ n f) (zr_ (ls zd_ n f)) (iOf v2) (iOf v3) (iOf v4) n).isEmpty
  | none=>true
 | _=>true
def sDoomed:y4_:=fun args h m=>bif doomE args h then sDoomN args h m else sDoomS args h m
theorem sDoomed_ok:zm_ Try.prog 34 sDoomed:=callOk_or doomE sDoomN_ok sDoomS_ok
end Go.Proofs.Ytmljmabbopkpiaa.Vm
end
end

import Derived.Test.YtjliakjbdcplcaaU1
import Derived.Test.YtjliakjbdcplcaaU12
import Derived.Test.YtjliakjbdcplcaaU29
import Derived.Test.YtjliakjbdcplcaaU31
set_option linter.unusedSimpArgs false
set_option linter.unusedVariables false
set_option maxRecDepth 100000
set_option maxHeartbeats 4000000
section
open Go.Proofs.Ytjliakjbdcplcaa.Vm Go.RowKit
attribute [local push_cast] eqB eqBL allB prS zt_ i64S xo_ y3_ y2_ y1_ y0_ yz_ xn_ yy_ yx_ yw_ zy_ zv_ zw_ zu_ y5_ y4_ iOf nav_k nav_k0 nav_k1 nav_ka nav_kai nav_ft nav_ft0 nav_ft1 isKn_kS knOf_kS isKa_kaS kaOf_kaS isFt_ftS ftOf_ftS setp_ka setp_ftk setp_ftr setp_fti evm_ins evm_snd evm_k evm_ka evm_ft
section
namespace Go.Proofs.Ytjliakjbdcplcaa.Vm
open Go.RowKit
def sFactsI:yr_:=fun args h m=>match args with
 | [v1]=>match srcV h 5 (.tup []) v1 with
  | some (c1,n1,f1,r1)=>some (c1∧(∀q,q < n1→isIns (f1 q)=true)∧((∀x∈(ls zg_ n1 f1),x.ok))∧((y8_ (ls zg_ n1 f1)).2=0),.sl m m [] 17 0 (ls zg_ n1 f1).length none,r1,[(m,.own 113 (.arr (ls zg_ n1 f1).length 17 (ftsS (factsS (ls zg_ n1 f1)))) false)])
  | _=>none
 | _=>none
theorem sFactsI_ok:zh_ Try.prog 64 sFactsI:=by
 refine⟨zf_ (by kernel_rfl),fun args h m c v rd wr hs hm hc w0 M β h' w R hrd hwr hst=>?_⟩
 unfold sFactsI at hs
 split at hs
 ·rename_i v1
  split at hs
  ·rename_i c1 n1 f1 r1 a1
   simp only[Option.some.injEq,Prod.mk.injEq]at hs
   obtain⟨rfl,rfl,rfl,rfl⟩:=hs
   obtain⟨k1,g1,y1,y2⟩:=hc
   obtain⟨A1,p1,d1,e1,t1⟩:=zk_ R a1 k1 (fun i hi=>hrd i hi) (by omega)
   refine y9_ (views:=[⟨5,(ls zg_ n1 f1).length,prS (ls zg_ n1 f1),A1,p1⟩]) (facts_lit (ls zg_ n1 f1) p1 y1 y2) ?_ R hm hwr ?_ ?_ ?_
   ·exact d34_
   ·exact d35_
   ·exact zz_
   ·exact zz_
  ·cases hs
 ·cases hs
def cWh:FuncId→Option yr_:=xb_ [(64,sFactsI),(65,sFits),(99,sWhyL),(63,sCheck)]
theorem cWh_ok:∀f S,cWh f=some S→zh_ Try.prog f S:=zn_ ⟨sFactsI_ok,sFits_ok,sWhyL_ok,sCheck_ok,trivial⟩
theorem Facts_lit (xs:List Ins)(p1:Nat)(hx:∀x∈xs,x.ok)(hc:(y8_ xs).2=0):yc_ Try.prog 36 [.sl 1 2 [] 5 0 xs.length (some p1)] [.gone,.gone,.ro (.arr xs.length 5 (prS xs))] (.tup [.sl 3 3 [] 17 0 xs.length none,.int .i64 0]) [.gone,.gone,.gone,.own 113 (.arr xs.length 17 (ftsS (factsS xs))) false]:=by
 refine zm_ (fn:=Try.f36) 3 15 0 rfl rfl rfl rfl rfl u10_ rfl fun w0 M E hro=>?_
 have hl:xs.length≤256:=(right_last' hc).2.1
 repeat' (first|refine Ctl.h ?_ |((with_reducible intro hif);first |(focus (cases hif;done)) |((try simp only[JH]at hif);try exact hy_)) |((with_reducible first|apply J22 cWh_ok za_|apply J23 fol cWh_ok za_|apply J24);(·rfl);(· (simp only[push_cast,↓JP,Nat.reduceAdd,Nat.reduceEqDiff,Nat.reduceLT,Nat.reduceMul,Nat.reduceLeDiff,reduceCtorEq,reduceIte,↓JK,↓JF,cWh,sFactsI,sCheck,ls_prS,ls_prS',ls_prS2,hc];rfl));(try kernel_rfl);try exact z9_)|fail)
 apply At.endsRet za_ (fn:=Try.f36) (rs:=[.tmp 2,.tmp 3]) Anc.refl hro (lb_ rfl) rfl
 ·exact k96_
 ·exact k6_
 ·exact k7_
 ·rfl
 ·exact zz_
 ·exact k9_
 ·exact fun β=>rfl
 ·exact zz_
def sFactsR:yr_:=fun args h m=>match args with
 | [v1]=>match srcV h 5 (.tup []) v1 with
  | some (c1,n1,f1,r1)=>some (c1∧(∀q,q < n1→isIns (f1 q)=true)∧((∀x∈(ls zg_ n1 f1),x.ok))∧((y8_ (ls zg_ n1 f1)).2=0),.tup [.sl m m [] 17 0 (ls zg_ n1 f1).length none,.int .i64 0],r1,[(m,.own 113 (.arr (ls zg_ n1 f1).length 17 (ftsS (factsS (ls zg_ n1 f1)))) false)])
  | _=>none
 | _=>none
theorem sFactsR_ok:zh_ Try.prog 36 sFactsR:=by
 refine⟨zf_ (by kernel_rfl),fun args h m c v rd wr hs hm hc w0 M β h' w R hrd hwr hst=>?_⟩
 unfold sFactsR at hs
 split at hs
 ·rename_i v1
  split at hs
  ·rename_i c1 n1 f1 r1 a1
   simp only[Option.some.injEq,Prod.mk.injEq]at hs
   obtain⟨rfl,rfl,rfl,rfl⟩:=hs
   obtain⟨k1,g1,y1,y2⟩:=hc
   obtain⟨A1,p1,d1,e1,t1⟩:=zk_ R a1 k1 (fun i hi=>hrd i hi) (by omega)
   refine y9_ (views:=[⟨5,(ls zg_ n1 f1).length,prS (ls zg_ n1 f1),A1,p1⟩]) (Facts_lit (ls zg_ n1 f1) p1 y1 y2) ?_ R hm hwr ?_ ?_ ?_
   ·exact d34_
   ·exact d35_
   ·exact zz_
   ·exact zz_
  ·cases hs
 ·cases hs
theorem whys_lit (n p:Nat)(a b c:Int):yc_ Try.prog 66 [.agg [.int .i64 a,.int .i64 b,.int .i64 c],.sl 1 2 [] 5 0 n (some p)] [.gone,.gone,.gone] (.fn 98 [.ptr 4 [],.ptr 3 []]) [.gone,.gone,.gone,.own 108 (.agg [.int .i64 a,.int .i64 b,.int .i64 c]) true,.own 35 (.sl 1 2 [] 5 0 n (some p)) true]:=by
 refine zm_ (fn:=Try.f66) 3 6 0 rfl rfl rfl rfl rfl u10_ rfl fun w0 M E hro=>?_
 repeat' (first|refine Ctl.h ?_ |((with_reducible intro hif);first |(focus (cases hif;done)) |((try simp only[JH]at hif);try exact hy_)) |((with_reducible first|apply J22 yt_ za_|apply J23 fol yt_ za_|apply J24);(·rfl);(· exact k101_);(try kernel_rfl);try exact z9_)|fail)
 apply At.endsRet za_ (fn:=Try.f66) (rs:=[.tmp 4]) Anc.refl hro (lb_ rfl) rfl
 ·exact k96_
 ·exact k6_
 ·exact k7_
 ·rfl
 ·exact k142_
 ·exact k9_
 ·exact fun β=>rfl
 ·exact k142_
def sWhys:yr_:=fun args h m=>match args with
 | [.agg [.int .i64 a,.int .i64 b,.int .i64 c],.sl z i [] 5 0 n (some p)]=>bif (h z).born && (h i).born then some (True,.fn 98 [.ptr (m+1) [],.ptr m []],[z,i],[(m,.own 108 (.agg [.int .i64 a,.int .i64 b,.int .i64 c]) true),(m+1,.own 35 (.sl z i [] 5 0 n (some p)) true)])else none
 | _=>none
theorem sWhys_ok:zh_ Try.prog 66 sWhys:=by
 refine⟨zf_ (by kernel_rfl),fun args h m c v rd wr hs hm hc w0 M β h' w R hrd hwr hst=>?_⟩
 unfold sWhys at hs
 split at hs
 ·rename_i a b c z i n p
  obtain⟨hb,hs2⟩:=zj_ hs
  clear hs
  simp only[Bool.and_eq_true]at hb
  obtain⟨hz,hi⟩:=hb
  simp only[Option.some.injEq,Prod.mk.injEq]at hs2
  obtain⟨rfl,rfl,rfl,rfl⟩:=hs2
  have ei:h' i=h i:=hrd i (by simp)
  have ez:h' z=h z:=hrd z (by simp)
  have C:=callG (L1:=[.gone,.gone,.gone,.own 108 (.agg [.int .i64 a,.int .i64 b,.int .i64 c]) true,.own 35 (.sl 1 2 [] 5 0 n (some p)) true]) (h:=h) (m:=m) [0,z,i] (whys_lit n p a b c) R rfl (by simp) rfl rfl rfl
   ⟨.gone (by rw[R.nil0];rfl),.gone (by rw[ez];exact hz),.gone (by rw[ei];exact hi),trivial⟩ hm (by simpa [newB,y6_,HB.ren,SV.ren,renL]using hwr) (by simp)
   (by simp[yk_,HB.stable]) (by simp[zd_,Stable,hp,HB.born]) (by simp[NewL,HB.stable,Stable,zd_,HB.isRo,hG,hp,HB.born]) (by simp[Stable,zd_,hG,hp,HB.born])
  have e0:renL (y6_ [0,z,i] m) [SV.agg [.int .i64 a,.int .i64 b,.int .i64 c],.sl 1 2 [] 5 0 n (some p)]=[.agg [.int .i64 a,.int .i64 b,.int .i64 c],.sl z i [] 5 0 n (some p)]:=by simp[renL,SV.ren,y6_]
  rw[e0]at C
  refine C.mono fun e w' he=>?_
  simpa [newB,y6_,HB.ren,SV.ren,renL]using he
 ·cases hs
def cWys:FuncId→Option yr_:=xb_ [(64,sFactsI),(65,sFits),(99,sWhyL),(66,sWhys)]
theorem yi_:∀f S,cWys f=some S→zh_ Try.prog f S:=zn_ ⟨sFactsI_ok,sFits_ok,sWhyL_ok,sWhys_ok,trivial⟩
def doomK (xs:List Ins)(F:List Ft)(c p l:Int):Nat→List Int
 | 0=>[]
 | k+1=>doomK xs F c p l k++(if whyE c p l (xs.getD k ⟨0,0,0,0,0⟩) (ys_ F k)≠0 then [(k:Int)] else [])
theorem doom_len (xs:List Ins)(F:List Ft)(c p l:Int):∀k,(doomK xs F c p l k).length≤k
 | 0=>by simp[doomK]
 | k+1=>by
  have:=doom_len xs F c p l k
  unfold doomK
  split<;>simp<;>omega
theorem Doomed_litU (xs:List Ins)(p1:Nat)(c p l:Int)(hx:∀x∈xs,x.ok)(hc:(y8_ xs).2=0)(hl:limB c p l=true):yc_ Try.prog 37 [.sl 1 2 [] 5 0 xs.length (some p1),.agg [.int .i64 c,.int .i64 p,.int .i64 l]] [.gone,.gone,.ro (.arr xs.length 5 (prS xs))]
  (.tup [.sl 3 3 [] 1 0 (doomK xs (factsS xs) c p l xs.length).length none,.int .i64 0]) [.gone,.gone,.gone,.own 3 (.arr (doomK xs (factsS xs) c p l xs.length).length 1 (i64S (doomK xs (factsS xs) c p l xs.length))) false]:=by
 refine zm_ (fn:=Try.f37) 3 25 0 rfl rfl rfl rfl rfl u10_ rfl fun w0 M E hro=>?_
 have hl6:xs.length≤256:=(right_last' hc).2.1
 have hfit:fitE xs c p l=0:=by unfold fitE;rw[if_pos hc,if_pos hl]
 obtain⟨F,hF⟩:∃F,F=factsS xs:=⟨_,rfl⟩
 rw[←hF]
 repeat' (first|refine Ctl.h ?_ |((with_reducible intro hif);first |(focus (cases hif;done)) |((try simp only[JH]at hif);try exact hy_)) |((with_reducible first|apply J22 yi_ za_|apply J23 fol yi_ za_|apply J24);(·rfl);(· (simp only[push_cast,↓JP,Nat.reduceAdd,Nat.reduceEqDiff,Nat.reduceLT,Nat.reduceMul,Nat.reduceLeDiff,reduceCtorEq,reduceIte,↓JK,↓JF,cWys,sFits,sWhys,ls_prS,ls_prS',ls_prS2,hfit];rfl));(try kernel_rfl);(try (focus (first|exact True.intro |((try simp only[JS,implies_true,forall_const,z3_,z5_,kndOf]);(first|exact⟨fun q _=>rfl,hx,by omega⟩ |(repeat' (first|assumption|exact True.intro|omega|apply And.intro)));done)))))|fail)
 with_reducible apply WF.range (fn':=Try.f98) 32
 ·exact k102_
 ·exact yq_
 ·rfl
 ·rfl
 ·rfl
 ·rfl
 ·rfl
 ·rfl
 ·rfl
 intro E1 rec tmps after hE1 hrec hcf haft
 repeat' (first|refine Ctl.h ?_ |((with_reducible intro hif);first |(focus (cases hif;done)) |((try simp only[JH]at hif);try exact hy_)) |((with_reducible first|apply J22 yi_ za_|apply J23 fol yi_ za_|apply J24);(·rfl);(· (simp only[push_cast,↓JP,Nat.reduceAdd,Nat.reduceEqDiff,Nat.reduceLT,Nat.reduceMul,Nat.reduceLeDiff,reduceCtorEq,reduceIte,↓JK,↓JF,cWys,sFactsI,ls_prS,ls_prS',ls_prS2,hc,←hF];rfl));(try kernel_rfl);try exact z9_)|fail)
 refine WF.empty 3 1 (i64S []) (fun _ q=>i64S_stable q) ?_
 refine WF.loopAt (fun k=>k≤xs.length) (fun k=>[(0,.yl 8),(1,.ptr 6 []),(2,.ptr 5 []),(8,.sl 9 9 [] 17 0 xs.length none),(9,.nat .i64 xs.length),(10,.nat .i64 k)]) (fun k=>[.gone,.gone,.ro (.arr xs.length 5 (prS xs)),.gone,.own 69 (nilOr (doomK xs F c p l k) 10) true,.own 108 (.agg [.int .i64 c,.int .i64 p,.int .i64 l]) true,.own 35 (.sl 1 2 [] 5 0 xs.length (some p1)) true,.raw (.deferred (some [])),.raw (.loop (rec .ready none)),.own 113 (.arr xs.length 17 (ftsS F)) false,.own 3 (.arr (doomK xs F c p l k).length 1 (i64S (doomK xs F c p l k))) false]) (fun k=>xs.length - k) 0 (Nat.zero_le _) ?_ ?_ rfl ?_ ?_ rfl ?_
 ·exact k28_
 ·exact k7_
 ·exact k142_
 ·exact k142_
 ·intro k hk
  obtain⟨Dk,hD⟩:∃Dk,doomK xs F c p l k=Dk:=⟨_,rfl⟩
  rw[hD]
  have hDl:Dk.length≤256:=by have:=doom_len xs F c p l k;rw[hD]at this;omega
  by_cases hkl:k < xs.length
  ·obtain⟨x,hX⟩:∃x,xs.getD k ⟨0,0,0,0,0⟩=x:=⟨_,rfl⟩
   have hR:=right_at hx hc hkl
   rw[hX]at hR
   have hok:=hR.ok
   have ha8:=hR.a
   have hb8:=hR.b
   have hc8:=hR.c
   by_cases he:whyE c p l x (ys_ F k)=0
   ·have e:doomK xs F c p l (k+1)=Dk:=by unfold doomK;rw[hD,hX,if_neg (fun h=>h he),List.append_nil]
    repeat' (first|refine Ctl.h ?_ |((with_reducible intro hif);first |(focus (cases hif;done)) |((try simp only[JH]at hif);try exact hy_)) |((with_reducible first|apply J22 yi_ za_|apply J23 fol yi_ za_|apply J24);(·rfl);(· exact k147_);(try kernel_rfl);try exact k81_)|fail)
    have e4:Less (.own 69 (nilOr Dk 10) true) (.own 69 (nilOr (doomK xs F c p l (k+1)) 10) true):=by rw[e];exact .same _
    have e5:Less (.own 3 (.arr Dk.length 1 (i64S Dk)) false) (.own 3 (.arr (doomK xs F c p l (k+1)).length 1 (i64S (doomK xs F c p l (k+1)))) false):=by rw[e];exact .same _
    refine At.next (k+1) ?_ ?_ ?_ rfl ?_ ?_ rfl
    ·omega
    ·exact k28_
    ·exact k7_
    ·exact k142_
    ·exact k142_
   ·have e:doomK xs F c p l (k+1)=Dk++[(k:Int)]:=by unfold doomK;rw[hD,hX,if_pos he]
    have ht:whyE c p l x (ys_ F k)=0↔False:=⟨he,False.elim⟩
    cases hDe:Dk.isEmpty
    ·rw[nilOr_f hDe]
     repeat' (first|refine Ctl.h ?_ |((with_reducible intro hif);first |(focus (cases hif;done)) |((try simp only[JH]at hif);try exact hy_)) |((with_reducible first|apply J22 yi_ za_|apply J23 fol yi_ za_|apply J24);(·rfl);(· exact k147_);(try kernel_rfl);try exact k81_)|fail)
     with_reducible apply WF.split 6 2
     ·rfl
     with_reducible apply At.run yi_ za_
     ·rfl
     ·rfl
     ·rfl
     ·exact k143_
     ·exact k144_
     with_reducible apply At.yield (gr:=_)
     ·rfl
     ·rfl
     ·rfl
     ·rfl
     ·rfl
     ·rfl
     ·exact k143_
     ·exact k145_
     ·exact k143_
     ·exact k144_
     ·exact k143_
     ·exact k144_
     ·exact k145_
     ·exact hrec
     ·exact hcf
     ·rfl
     ·rfl
     ·rfl
     intro lb E2 next hE2 hnext
     repeat' (first|refine Ctl.h ?_ |((with_reducible intro hif);first |(focus (cases hif;done)) |((try simp only[JH]at hif);try exact hy_)) |((with_reducible first|apply J22 yi_ za_|apply J23 fol yi_ za_|apply J24);(·rfl);(· exact k148_);(try kernel_rfl);try exact k81_)|fail)
     with_reducible apply At.begins hrec
     ·rfl
     with_reducible refine At.code ?_
     repeat' (first|refine Ctl.h ?_ |((with_reducible intro hif);first |(focus (cases hif;done)) |((try simp only[JH]at hif);try exact hy_)) |((with_reducible first|apply J22 yi_ za_|apply J23 fol yi_ za_|apply J24);(·rfl);(· exact k149_);(try kernel_rfl);try exact k81_)|fail)
     with_reducible apply At.roundNormal
     ·exact k145_
     apply hnext
     with_reducible apply At.runEnd yi_ za_
     ·rfl
     ·rfl
     ·rfl
     ·exact k143_
     ·exact k144_
     repeat' (first|refine Ctl.h ?_ |((with_reducible intro hif);first |(focus (cases hif;done)) |((try simp only[JH]at hif);try exact hy_)) |((with_reducible first|apply J22 yi_ za_|apply J23 fol yi_ za_|apply J24);(·rfl);(· exact k148_);(try kernel_rfl);try exact k81_)|fail)
     have hA1:∀g:Nat→SV,(∀q,q < Dk.length+1→g q=SV.ite (decide (q < Dk.length)) (.int .i64 (Dk.getD q 0)) ([SV.nat .i64 k].getD (q - Dk.length) (.nat .i64 0)))→∀σ,Less (.own 3 (.arr (Dk.length+1) 1 g) false) ((HB.own 3 (.arr (Dk++[(k:Int)]).length 1 (i64S (Dk++[(k:Int)]))) false).ren σ):=fun g hg σ=>less_app Dk k fun q hq β=>by
      rw[hg q hq,ite_eq]
      by_cases h:q < Dk.length
      ·simp only[h,decide_true,cond_true,List.getD_eq_getElem?_getD,List.getElem?_append_left h];rfl
      ·obtain rfl:q=Dk.length:=by omega
       simp only[Nat.lt_irrefl,decide_false,cond_false,Nat.sub_self,List.getD_eq_getElem?_getD,List.getElem?_append_right (Nat.le_refl _),List.getElem?_cons_zero,Option.getD_some];rfl
     refine At.nextPick [0,1,2,3,4,5,6,7,8,9,13] (k+1) ?_ rfl rfl rfl ?_ rfl ?_ ?_ ?_ rfl
     ·omega
     ·exact k146_
     ·exact k142_
     ·exact k45_
     ·exact k142_
    ·rw[nilOr_t hDe]
     have hDz:Dk=[]:=by simpa using hDe
     subst hDz
     repeat' (first|refine Ctl.h ?_ |((with_reducible intro hif);first |(focus (cases hif;done)) |((try simp only[JH]at hif);try exact hy_)) |((with_reducible first|apply J22 yi_ za_|apply J23 fol yi_ za_|apply J24);(·rfl);(· exact k147_);(try kernel_rfl);try exact k81_)|fail)
     with_reducible apply WF.split 6 2
     ·rfl
     with_reducible apply At.run yi_ za_
     ·rfl
     ·rfl
     ·rfl
     ·exact k143_
     ·exact k144_
     with_reducible apply At.yield (gr:=_)
     ·rfl
     ·rfl
     ·rfl
     ·rfl
     ·rfl
     ·rfl
     ·exact k143_
     ·exact k145_
     ·exact k143_
     ·exact k144_
     ·exact k143_
     ·exact k144_
     ·exact k145_
     ·exact hrec
     ·exact hcf
     ·rfl
     ·rfl
     ·rfl
     intro lb E2 next hE2 hnext
     repeat' (first|refine Ctl.h ?_ |((with_reducible intro hif);first |(focus (cases hif;done)) |((try simp only[JH]at hif);try exact hy_)) |((with_reducible first|apply J22 yi_ za_|apply J23 fol yi_ za_|apply J24);(·rfl);(· exact k148_);(try kernel_rfl);try exact k81_)|fail)
     with_reducible apply At.begins hrec
     ·rfl
     with_reducible refine At.code ?_
     repeat' (first|refine Ctl.h ?_ |((with_reducible intro hif);first |(focus (cases hif;done)) |((try simp only[JH]at hif);try exact hy_)) |((with_reducible first|apply J22 yi_ za_|apply J23 fol yi_ za_|apply J24);(·rfl);(· exact k149_);(try kernel_rfl);try exact k81_)|fail)
     with_reducible apply At.roundNormal
     ·exact k145_
     apply hnext
     with_reducible apply At.runEnd yi_ za_
     ·rfl
     ·rfl
     ·rfl
     ·exact k143_
     ·exact k144_
     repeat' (first|refine Ctl.h ?_ |((with_reducible intro hif);first |(focus (cases hif;done)) |((try simp only[JH]at hif);try exact hy_)) |((with_reducible first|apply J22 yi_ za_|apply J23 fol yi_ za_|apply J24);(·rfl);(· exact k148_);(try kernel_rfl);try exact k81_)|fail)
     have hA1:∀g:Nat→SV,(∀q,q < 0+1→g q=[SV.nat .i64 k].getD q (.nat .i64 0))→∀σ,Less (.own 3 (.arr (0+1) 1 g) false) ((HB.own 3 (.arr ([]++[(k:Int)]).length 1 (i64S ([]++[(k:Int)]))) false).ren σ):=fun g hg σ=>less_app [] k fun q hq β=>by
      rw[hg q hq]
      obtain rfl:q=0:=by simp at hq;omega
      rfl
     refine At.nextPick [0,1,2,3,4,5,6,7,8,9,13] (k+1) ?_ rfl rfl rfl ?_ rfl ?_ ?_ ?_ rfl
     ·omega
     ·exact k146_
     ·exact k142_
     ·exact k45_
     ·exact k142_
  ·obtain rfl:k=xs.length:=by omega
   cases hDe:Dk.isEmpty
   ·rw[nilOr_f hDe]
    repeat' (first|refine Ctl.h ?_ |((with_reducible intro hif);first |(focus (cases hif;done)) |((try simp only[JH]at hif);try exact hy_)) |((with_reducible first|apply J22 yi_ za_|apply J23 fol yi_ za_|apply J24);(·rfl);(· exact k150_);(try kernel_rfl);try exact k81_)|fail)
    with_reducible apply At.itNormal .ready
    ·rfl
    ·rfl
    ·intro h;cases h
    apply haft
    intro w1 M1 D1 hA
    dsimp only
    rw[hD]
    repeat' (first|refine Ctl.h ?_ |((with_reducible intro hif);first |(focus (cases hif;done)) |((try simp only[JH]at hif);try exact hy_)) |((with_reducible first|apply J22 yi_ za_|apply J23 fol yi_ za_|apply J24);(·rfl);(· exact k150_);(try kernel_rfl);try exact k81_)|fail)
    apply At.endsPick [0,1,2,10] za_ (fn:=Try.f37) (rs:=[.tmp 4,.tmp 5]) hA hro (lb_ rfl) rfl
    ·exact k96_
    ·exact yq_
    ·rfl
    ·rfl
    ·rfl
    ·exact k24_
    ·rfl
    ·exact k142_
    ·exact k9_
    ·exact fun β=>rfl
    ·exact k142_
   ·rw[nilOr_t hDe]
    have hDz:Dk=[]:=by simpa using hDe
    subst hDz
    repeat' (first|refine Ctl.h ?_ |((with_reducible intro hif);first |(focus (cases hif;done)) |((try simp only[JH]at hif);try exact hy_)) |((with_reducible first|apply J22 yi_ za_|apply J23 fol yi_ za_|apply J24);(·rfl);(· exact k150_);(try kernel_rfl);try exact k81_)|fail)
    with_reducible apply At.itNormal .ready
    ·rfl
    ·rfl
    ·intro h;cases h
    apply haft
    intro w1 M1 D1 hA
    dsimp only
    rw[hD]
    repeat' (first|refine Ctl.h ?_ |((with_reducible intro hif);first |(focus (cases hif;done)) |((try simp only[JH]at hif);try exact hy_)) |((with_reducible first|apply J22 yi_ za_|apply J23 fol yi_ za_|apply J24);(·rfl);(· exact k150_);(try kernel_rfl);try exact k81_)|fail)
    refine At.nil 4 3 1 (i64S []) rfl (fun h q=>i64S_stable q) ?_
    apply At.endsPick [0,1,2,11] za_ (fn:=Try.f37) (rs:=[.tmp 4,.tmp 5]) hA hro (lb_ rfl) rfl
    ·exact k96_
    ·exact yq_
    ·rfl
    ·rfl
    ·rfl
    ·exact k135_
    ·rfl
    ·exact k142_
    ·exact k9_
    ·exact fun β=>rfl
    ·exact k142_
def sDoomU:yr_:=fun args h m=>match args with
 | [v1,.agg [v2,v3,v4]]=>match srcV h 5 (.tup []) v1 with
  | some (c1,n1,f1,r1)=>bif isI .i64 v2 && isI .i64 v3 && isI .i64 v4 then some (c1∧(∀q,q < n1→isIns (f1 q)=true)∧((∀x∈(ls zg_ n1 f1),x.ok))∧((y8_ (ls zg_ n1 f1)).2=0)∧(limB (iOf v2) (iOf v3) (iOf v4)=true),.tup [.sl m m [] 1 0 (doomK (ls zg_ n1 f1) (factsS (ls zg_ n1 f1)) (iOf v2) (iOf v3) (iOf v4) (ls zg_ n1 f1).length).length none,.int .i64 0],r1,[(m,.own 3 (.arr (doomK (ls zg_ n1 f1) (factsS (ls zg_ n1 f1)) (iOf v2) (iOf v3) (iOf v4) (ls zg_ n1 f1).length).length 1 (i64S (doomK (ls zg_ n1 f1) (factsS (ls zg_ n1 f1)) (iOf v2) (iOf v3) (iOf v4) (ls zg_ n1 f1).length))) false)])else none
  | _=>none
 | _=>none
theorem sDoomU_ok:zh_ Try.prog 37 sDoomU:=by
 refine⟨zf_ (by kernel_rfl),fun args h m c v rd wr hs hm hc w0 M β h' w R hrd hwr hst=>?_⟩
 unfold sDoomU at hs
 split at hs
 ·rename_i v1 v2 v3 v4
  split at hs
  ·rename_i c1 n1 f1 r1 a1
   obtain⟨hb,hs⟩:=zj_ hs
   simp only[Option.some.injEq,Prod.mk.injEq]at hs
   obtain⟨rfl,rfl,rfl,rfl⟩:=hs
   simp only[Bool.and_eq_true]at hb
   obtain⟨⟨b2,b3⟩,b4⟩:=hb
   obtain⟨k1,g1,y1,y2,y3⟩:=hc
   obtain⟨A1,p1,d1,e1,t1⟩:=zk_ R a1 k1 (fun i hi=>hrd i hi) (by omega)
   refine y9_ (views:=[⟨5,(ls zg_ n1 f1).length,prS (ls zg_ n1 f1),A1,p1⟩]) (Doomed_litU (ls zg_ n1 f1) p1 (iOf v2) (iOf v3) (iOf v4) y1 y2 y3) ?_ R hm hwr ?_ ?_ ?_
   ·exact d34_
   ·intro β1 hv
    simp only[Vd,zb_,and_true]at hv
    have z1:=hv
    simp only[denL,yp_,yo_,yn_,z6_,zb_,z1,d1,zc_ b2,zc_ b3,zc_ b4]
   ·exact k142_
   ·exact k142_
  ·cases hs
 ·cases hs
end Go.Proofs.Ytjliakjbdcplcaa.Vm
end
end

import Derived.Test.YtjliakjbdcplcaaGreatQ1
import Derived.Test.YtjliakjbdcplcaaGreatQ25
set_option linter.unusedSimpArgs false
set_option linter.unusedVariables false
set_option maxRecDepth 100000
set_option maxHeartbeats 4000000
section
namespace Go.Proofs.YtjliakjbdcplcaaGreat.Vm
open Go.RowKit
attribute [local push_cast] prS zo_ zp_ xt_ y8_ y7_ y6_ y5_ y4_ xs_ y3_ y2_ y1_ zn_ z2_ z4_ z1_ zu_ zt_ iOf JE inR inN
theorem nilOr_app (D:List Int)(z:Int):(D++[z]).isEmpty=false:=by cases D<;>rfl
theorem Trace_go (P:List Ins)(v:Evi)(t s q o y d f:Int)(cs:List Int)(p1 p2:Nat)(hP:PG P)(V:VOk v)(hc:cs.length≤1000000)(hE:ropE P v (yo_ y t s cs d) f=0)(r:RR)(hr:xq_ P v f.toNat (yo_ y t s cs d) Ins0 [] 0=r):zs_ Tryz.prog 14 [.sl 1 2 [] 5 0 P.length (some p1),.agg [.int .u64 v.seed,.int .i64 v.process,.int .i64 v.ports,.int .i64 v.look,.int .i64 v.now],.agg [.agg [.int .i64 t,.int .i64 s,.int .i64 q],.int .i64 o,.int .i64 y],.sl 3 4 [] 1 0 cs.length (some p2),.int .i64 d,.int .i64 f]
  [.gone,.gone,.ro (.arr P.length 5 (prS P)),.gone,.ro (.arr cs.length 1 (zp_ cs))]
  (.tup [nilOr r.tr 5,.int .i64 r.bad]) [.gone,.gone,.gone,.gone,.gone,.own 3 (.arr r.tr.length 1 (zp_ r.tr)) false]:=by
 have hok:=hP.ok
 have hn:=hP.len
 have hn':P.length≤1000000:=by omega
 have hf:=(ropE_zero hE).1
 have hO:=openE_zero (ropE_zero hE).2
 have hG:SG P (yo_ y t s cs d):=SG.of hO.2.2 (by simp[yo_])
 obtain⟨s0,hs0⟩:∃s0,yo_ y t s cs d=s0:=⟨_,rfl⟩
 rw[hs0]at hE hr hG
 refine zf_ (fn:=Tryz.f14) 5 46 0 rfl rfl rfl rfl rfl u20_ rfl fun w0 M E hro=>?_
 repeat' (first|refine Ctl.h ?_ |((with_reducible intro hif);first |(focus (cases hif;done)) |((try simp only[JH]at hif);try exact hy_)) |((with_reducible first|apply J22 zj_ za_|apply J23 fol zj_ za_|apply J24);(·rfl);(· (simp only[push_cast,↓JP,Nat.reduceAdd,Nat.reduceEqDiff,Nat.reduceLT,Nat.reduceMul,Nat.reduceLeDiff,reduceCtorEq,reduceIte,↓JK,cRun,sRoG,sSteps,hs0,hE];rfl));(try kernel_rfl);(try (focus (first|exact True.intro |((try simp only[JS,implies_true,forall_const,yc_,z7_,x4_]);(first|first|omega|exact⟨hok,hn',hc⟩ |(repeat' (first|assumption|exact True.intro|omega|apply And.intro)));done)))))|fail)
 with_reducible apply WF.range (fn':=Tryz.f88) 28
 ·exact k129_
 ·exact xz_
 ·rfl
 ·rfl
 ·rfl
 ·rfl
 ·rfl
 ·rfl
 ·rfl
 intro E1 rec tmps after hE1 hrec hcf haft
 repeat' (first|refine Ctl.h ?_ |((with_reducible intro hif);first |(focus (cases hif;done)) |((try simp only[JH]at hif);try exact hy_)) |((with_reducible first|apply J22 zj_ za_|apply J23 fol zj_ za_|apply J24);(·rfl);(· (simp only[push_cast,↓JP,Nat.reduceAdd,Nat.reduceEqDiff,Nat.reduceLT,Nat.reduceMul,Nat.reduceLeDiff,reduceCtorEq,reduceIte,↓JK,JM,engP,prP,macP,z3_,memN,eB,prO,pbB,fbB];rfl));(try kernel_rfl);try exact yr_)|fail)
 refine At.pick (L2:=[.gone,.gone,.ro (.arr P.length 5 (prS P)),.gone,.ro (.arr cs.length 1 (zp_ cs)),.gone,.gone,eB 8 11 P.length,mB s0 v Ins0 9 18,cB s0,.gone,prO P,.own 43 (.int .i64 0) true,.own 33 (.sl 0 0 [] 0 0 0 (some 0)) true,pbB 7,fbB f,.raw (.deferred (some [])),.raw (.loop (rec .ready none)),sB s0]) (φ2:=[(0,.yl 17),(1,.ptr 14 []),(2,.ptr 15 []),(4,.nat .i64 0)]) [0,1,2,3,4,5,6,7,8,9,10,11,12,13,14,15,16,17,10] rfl rfl rfl ?_ rfl ?_ ?_ ?_ rfl ?_
 ·exact k40_
 ·exact k148_
 ·exact k32_
 ·exact k148_
 refine WF.empty 3 1 (zp_ []) (fun _ q=>yy_ q) ?_
 refine WF.loopAt (fun (z:RS)=>RInv P v f r z) (fun (z:RS)=>[(0,.yl 17),(1,.ptr 14 []),(2,.ptr 15 []),(4,.nat .i64 z.k)]) (fun (z:RS)=>[.gone,.gone,.ro (.arr P.length 5 (prS P)),.gone,.ro (.arr cs.length 1 (zp_ cs)),.gone,.gone,eB 8 11 P.length,mB z.s v z.x 9 18,cB z.s,.gone,prO P,.own 43 (.int .i64 0) true,.own 33 (nilOr z.tr 19) true,pbB 7,fbB f,.raw (.deferred (some [])),.raw (.loop (rec .ready none)),sB z.s,.own 3 (.arr z.tr.length 1 (zp_ z.tr)) false]) (fun (z:RS)=>f.toNat - z.k) ⟨0,s0,Ins0,[],0⟩ ⟨Nat.zero_le _,hG,rfl,hr⟩ ?_ ?_ rfl ?_ ?_ rfl ?_
 ·exact we_
 ·exact k7_
 ·exact k148_
 ·exact k148_
 rintro⟨k,⟨at1,en,rg,ce,dr,se⟩,x,tr,a⟩ ⟨hk,hg,hl,hr1⟩
 dsimp only at hk hg hl hr1 ⊢
 have htl:tr.length≤4096:=by omega
 cases en
 ·by_cases hkf:k < f.toNat
  ·have hkf2:(k:Int) < f:=by omega
   have hA1:∀g:Nat→SV,(∀q,q < tr.length+1→g q=SV.ite (decide (q < tr.length)) (.int .i64 (tr.getD q 0)) ([SV.int .i64 at1].getD (q - tr.length) (.nat .i64 0)))→∀σ,Less (.own 3 (.arr (tr.length+1) 1 g) false) ((HB.own 3 (.arr (tr++[at1]).length 1 (zp_ (tr++[at1]))) false).ren σ):=fun g hg σ=>less_app tr at1 fun q hq β=>by
    rw[hg q hq,xk_]
    by_cases h:q < tr.length
    ·simp only[h,decide_true,cond_true,List.getD_eq_getElem?_getD,List.getElem?_append_left h];rfl
    ·obtain rfl:q=tr.length:=by omega
     simp only[Nat.lt_irrefl,decide_false,cond_false,Nat.sub_self,List.getD_eq_getElem?_getD,List.getElem?_append_right (Nat.le_refl _),List.getElem?_cons_zero,Option.getD_some];rfl
   have hA0:∀g:Nat→SV,(∀q,q < 0+1→g q=[SV.int .i64 at1].getD q (.nat .i64 0))→∀σ,Less (.own 3 (.arr (0+1) 1 g) false) ((HB.own 3 (.arr ([]++[at1]).length 1 (zp_ ([]++[at1]))) false).ren σ):=fun g hg σ=>less_app [] at1 fun q hq β=>by
    rw[hg q hq]
    obtain rfl:q=0:=by simp at hq;omega
    rfl
   have hl2:(tr++[at1]).length=k+1:=by simp[hl]
   have hn190:=stepE_ne190 P v ⟨at1,false,rg,ce,dr,se⟩
   by_cases hst:x3_ P v ⟨at1,false,rg,ce,dr,se⟩=0
   ·cases hDe:tr.isEmpty
    ·rw[nilOr_f hDe]
     repeat' (first|refine Ctl.h ?_ |((with_reducible intro hif);first |(focus (cases hif;done)) |((try simp only[JH]at hif);try exact hy_)) |((with_reducible first|apply J22 zj_ za_|apply J23 fol zj_ za_|apply J24);(·rfl);(· exact k152_);(try kernel_rfl);try exact yr_)|fail)
     with_reducible apply WF.split 3 5
     ·rfl
     with_reducible apply At.run zj_ za_
     ·rfl
     ·rfl
     ·rfl
     ·exact k132_
     ·exact xd_
     with_reducible apply At.yield (gr:=_)
     ·rfl
     ·rfl
     ·rfl
     ·rfl
     ·rfl
     ·rfl
     ·exact k132_
     ·exact k134_
     ·exact k132_
     ·exact xd_
     ·exact k132_
     ·exact xd_
     ·exact k134_
     ·exact hrec
     ·exact hcf
     ·rfl
     ·rfl
     ·rfl
     intro lb E2 next hE2 hnext
     repeat' (first|refine Ctl.h ?_ |((with_reducible intro hif);first |(focus (cases hif;done)) |((try simp only[JH]at hif);try exact hy_)) |((with_reducible first|apply J22 zj_ za_|apply J23 fol zj_ za_|apply J24);(·rfl);(· exact k153_);(try kernel_rfl);try exact yr_)|fail)
     with_reducible apply At.begins hrec
     ·rfl
     with_reducible refine At.code ?_
     repeat' (first|refine Ctl.h ?_ |((with_reducible intro hif);first |(focus (cases hif;done)) |((try simp only[JH]at hif);try exact hy_)) |((with_reducible first|apply J22 zj_ za_|apply J23 fol zj_ za_|apply J24);(·rfl);(· exact k154_);(try kernel_rfl);try exact yr_)|fail)
     with_reducible apply At.roundNormal
     ·exact k134_
     apply hnext
     with_reducible apply At.runEnd zj_ za_
     ·rfl
     ·rfl
     ·rfl
     ·exact k132_
     ·exact xd_
     repeat' (first|refine Ctl.h ?_ |((with_reducible intro hif);first |(focus (cases hif;done)) |((try simp only[JH]at hif);try exact hy_)) |((with_reducible first|apply J22 zj_ za_|apply J23 fol zj_ za_|apply J24);(·rfl);(· exact k153_);(try kernel_rfl);try exact yr_)|fail)
     refine At.nextPick [0,1,2,3,4,5,6,7,8,9,10,11,12,13,14,15,16,17,20,22] ⟨k+1,xx_ P v ⟨at1,false,rg,ce,dr,se⟩,stepX P ⟨at1,false,rg,ce,dr,se⟩ x,tr++[at1],at1⟩ ?_ rfl rfl rfl ?_ rfl ?_ ?_ ?_ rfl
     ·exact k149_
     ·exact k150_
     ·exact k148_
     ·exact k32_
     ·exact k148_
    ·rw[nilOr_t hDe]
     have hDz:tr=[]:=by simpa using hDe
     subst hDz
     repeat' (first|refine Ctl.h ?_ |((with_reducible intro hif);first |(focus (cases hif;done)) |((try simp only[JH]at hif);try exact hy_)) |((with_reducible first|apply J22 zj_ za_|apply J23 fol zj_ za_|apply J24);(·rfl);(· exact k152_);(try kernel_rfl);try exact yr_)|fail)
     with_reducible apply WF.split 3 5
     ·rfl
     with_reducible apply At.run zj_ za_
     ·rfl
     ·rfl
     ·rfl
     ·exact k132_
     ·exact xd_
     with_reducible apply At.yield (gr:=_)
     ·rfl
     ·rfl
     ·rfl
     ·rfl
     ·rfl
     ·rfl
     ·exact k132_
     ·exact k134_
     ·exact k132_
     ·exact xd_
     ·exact k132_
     ·exact xd_
     ·exact k134_
     ·exact hrec
     ·exact hcf
     ·rfl
     ·rfl
     ·rfl
     intro lb E2 next hE2 hnext
     repeat' (first|refine Ctl.h ?_ |((with_reducible intro hif);first |(focus (cases hif;done)) |((try simp only[JH]at hif);try exact hy_)) |((with_reducible first|apply J22 zj_ za_|apply J23 fol zj_ za_|apply J24);(·rfl);(· exact k153_);(try kernel_rfl);try exact yr_)|fail)
     with_reducible apply At.begins hrec
     ·rfl
     with_reducible refine At.code ?_
     repeat' (first|refine Ctl.h ?_ |((with_reducible intro hif);first |(focus (cases hif;done)) |((try simp only[JH]at hif);try exact hy_)) |((with_reducible first|apply J22 zj_ za_|apply J23 fol zj_ za_|apply J24);(·rfl);(· exact k154_);(try kernel_rfl);try exact yr_)|fail)
     with_reducible apply At.roundNormal
     ·exact k134_
     apply hnext
     with_reducible apply At.runEnd zj_ za_
     ·rfl
     ·rfl
     ·rfl
     ·exact k132_
     ·exact xd_
     repeat' (first|refine Ctl.h ?_ |((with_reducible intro hif);first |(focus (cases hif;done)) |((try simp only[JH]at hif);try exact hy_)) |((with_reducible first|apply J22 zj_ za_|apply J23 fol zj_ za_|apply J24);(·rfl);(· exact k153_);(try kernel_rfl);try exact yr_)|fail)
     refine At.nextPick [0,1,2,3,4,5,6,7,8,9,10,11,12,13,14,15,16,17,20,22] ⟨k+1,xx_ P v ⟨at1,false,rg,ce,dr,se⟩,stepX P ⟨at1,false,rg,ce,dr,se⟩ x,[]++[at1],at1⟩ ?_ rfl rfl rfl ?_ rfl ?_ ?_ ?_ rfl
     ·exact k149_
     ·exact k150_
     ·exact k148_
     ·exact k32_
     ·exact k148_
   ·rw[runA_bad rfl (by omega) hst]at hr1
    subst hr1
    have hnf:nilOr (tr++[at1]) 5=.sl 5 5 [] 1 0 (tr++[at1]).length none:=nilOr_f (nilOr_app tr at1)
    cases hDe:tr.isEmpty
    ·rw[nilOr_f hDe]
     repeat' (first|refine Ctl.h ?_ |((with_reducible intro hif);first |(focus (cases hif;done)) |((try simp only[JH]at hif);try exact hy_)) |((with_reducible first|apply J22 zj_ za_|apply J23 fol zj_ za_|apply J24);(·rfl);(· exact k152_);(try kernel_rfl);try exact yr_)|fail)
     with_reducible apply WF.split 3 5
     ·rfl
     with_reducible apply At.run zj_ za_
     ·rfl
     ·rfl
     ·rfl
     ·exact k132_
     ·exact xd_
     with_reducible apply At.yield (gr:=_)
     ·rfl
     ·rfl
     ·rfl
     ·rfl
     ·rfl
     ·rfl
     ·exact k132_
     ·exact k134_
     ·exact k132_
     ·exact xd_
     ·exact k132_
     ·exact xd_
     ·exact k134_
     ·exact hrec
     ·exact hcf
     ·rfl
     ·rfl
     ·rfl
     intro lb E2 next hE2 hnext
     repeat' (first|refine Ctl.h ?_ |((with_reducible intro hif);first |(focus (cases hif;done)) |((try simp only[JH]at hif);try exact hy_)) |((with_reducible first|apply J22 zj_ za_|apply J23 fol zj_ za_|apply J24);(·rfl);(· exact k153_);(try kernel_rfl);try exact yr_)|fail)
     with_reducible apply At.begins hrec
     ·rfl
     with_reducible refine At.code ?_
     repeat' (first|refine Ctl.h ?_ |((with_reducible intro hif);first |(focus (cases hif;done)) |((try simp only[JH]at hif);try exact hy_)) |((with_reducible first|apply J22 zj_ za_|apply J23 fol zj_ za_|apply J24);(·rfl);(· exact k154_);(try kernel_rfl);try exact yr_)|fail)
     with_reducible apply At.roundNormal
     ·exact k134_
     apply hnext
     with_reducible apply At.runEnd zj_ za_
     ·rfl
     ·rfl
     ·rfl
     ·exact k132_
     ·exact xd_
     repeat' (first|refine Ctl.h ?_ |((with_reducible intro hif);first |(focus (cases hif;done)) |((try simp only[JH]at hif);try exact hy_)) |((with_reducible first|apply J22 zj_ za_|apply J23 fol zj_ za_|apply J24);(·rfl);(· exact k153_);(try kernel_rfl);try exact yr_)|fail)
     with_reducible apply At.itRet .ready
     ·rfl
     ·rfl
     ·intro h;cases h
     apply haft
     intro w1 M1 D1 hA
     dsimp only
     rw[hnf]
     repeat' (first|refine Ctl.h ?_ |((with_reducible intro hif);first |(focus (cases hif;done)) |((try simp only[JH]at hif);try exact hy_)) |((with_reducible first|apply J22 zj_ za_|apply J23 fol zj_ za_|apply J24);(·rfl);(· exact k153_);(try kernel_rfl);try exact yr_)|fail)
     apply At.endsPick [0,1,2,3,4,22] za_ (fn:=Tryz.f14) (rs:=[.tmp 12,.tmp 13]) hA hro (lb_ rfl) rfl
     ·exact yl_
     ·exact xz_
     ·rfl
     ·rfl
     ·rfl
     ·exact k150_
     ·rfl
     ·exact k148_
     ·exact k9_
     ·exact fun β=>by rw[show (tr++[at1]).length=tr.length+1 by simp];rfl
     ·exact k148_
    ·rw[nilOr_t hDe]
     have hDz:tr=[]:=by simpa using hDe
     subst hDz
     repeat' (first|refine Ctl.h ?_ |((with_reducible intro hif);first |(focus (cases hif;done)) |((try simp only[JH]at hif);try exact hy_)) |((with_reducible first|apply J22 zj_ za_|apply J23 fol zj_ za_|apply J24);(·rfl);(· exact k152_);(try kernel_rfl);try exact yr_)|fail)
     with_reducible apply WF.split 3 5
     ·rfl
     with_reducible apply At.run zj_ za_
     ·rfl
     ·rfl
     ·rfl
     ·exact k132_
     ·exact xd_
     with_reducible apply At.yield (gr:=_)
     ·rfl
     ·rfl
     ·rfl
     ·rfl
     ·rfl
     ·rfl
     ·exact k132_
     ·exact k134_
     ·exact k132_
     ·exact xd_
     ·exact k132_
     ·exact xd_
     ·exact k134_
     ·exact hrec
     ·exact hcf
     ·rfl
     ·rfl
     ·rfl
     intro lb E2 next hE2 hnext
     repeat' (first|refine Ctl.h ?_ |((with_reducible intro hif);first |(focus (cases hif;done)) |((try simp only[JH]at hif);try exact hy_)) |((with_reducible first|apply J22 zj_ za_|apply J23 fol zj_ za_|apply J24);(·rfl);(· exact k153_);(try kernel_rfl);try exact yr_)|fail)
     with_reducible apply At.begins hrec
     ·rfl
     with_reducible refine At.code ?_
     repeat' (first|refine Ctl.h ?_ |((with_reducible intro hif);first |(focus (cases hif;done)) |((try simp only[JH]at hif);try exact hy_)) |((with_reducible first|apply J22 zj_ za_|apply J23 fol zj_ za_|apply J24);(·rfl);(· exact k154_);(try kernel_rfl);try exact yr_)|fail)
     with_reducible apply At.roundNormal
     ·exact k134_
     apply hnext
     with_reducible apply At.runEnd zj_ za_
     ·rfl
     ·rfl
     ·rfl
     ·exact k132_
     ·exact xd_
     repeat' (first|refine Ctl.h ?_ |((with_reducible intro hif);first |(focus (cases hif;done)) |((try simp only[JH]at hif);try exact hy_)) |((with_reducible first|apply J22 zj_ za_|apply J23 fol zj_ za_|apply J24);(·rfl);(· exact k153_);(try kernel_rfl);try exact yr_)|fail)
     with_reducible apply At.itRet .ready
     ·rfl
     ·rfl
     ·intro h;cases h
     apply haft
     intro w1 M1 D1 hA
     dsimp only
     rw[hnf]
     repeat' (first|refine Ctl.h ?_ |((with_reducible intro hif);first |(focus (cases hif;done)) |((try simp only[JH]at hif);try exact hy_)) |((with_reducible first|apply J22 zj_ za_|apply J23 fol zj_ za_|apply J24);(·rfl);(· exact k153_);(try kernel_rfl);try exact yr_)|fail)
     apply At.endsPick [0,1,2,3,4,22] za_ (fn:=Tryz.f14) (rs:=[.tmp 12,.tmp 13]) hA hro (lb_ rfl) rfl
     ·exact yl_
     ·exact xz_
     ·rfl
     ·rfl
     ·rfl
     ·exact k150_
     ·rfl
     ·exact k148_
     ·exact k9_
     ·exact fun β=>rfl
     ·exact k148_
  ·have e0:f.toNat - k=0:=by omega
   have hkf2:¬(k:Int) < f:=by omega
   rw[e0,x7_ rfl]at hr1
   subst hr1
   cases hDe:tr.isEmpty
   ·rw[nilOr_f hDe]
    repeat' (first|refine Ctl.h ?_ |((with_reducible intro hif);first |(focus (cases hif;done)) |((try simp only[JH]at hif);try exact hy_)) |((with_reducible first|apply J22 zj_ za_|apply J23 fol zj_ za_|apply J24);(·rfl);(· exact k155_);(try kernel_rfl);try exact yr_)|fail)
    with_reducible apply WF.split 3 5
    ·rfl
    with_reducible apply At.run zj_ za_
    ·rfl
    ·rfl
    ·rfl
    ·exact k137_
    ·exact xd_
    with_reducible apply At.yield (gr:=_)
    ·rfl
    ·rfl
    ·rfl
    ·rfl
    ·rfl
    ·rfl
    ·exact k137_
    ·exact k138_
    ·exact k137_
    ·exact xd_
    ·exact k137_
    ·exact xd_
    ·exact k138_
    ·exact hrec
    ·exact hcf
    ·rfl
    ·rfl
    ·rfl
    intro lb E2 next hE2 hnext
    repeat' (first|refine Ctl.h ?_ |((with_reducible intro hif);first |(focus (cases hif;done)) |((try simp only[JH]at hif);try exact hy_)) |((with_reducible first|apply J22 zj_ za_|apply J23 fol zj_ za_|apply J24);(·rfl);(· exact k156_);(try kernel_rfl);try exact yr_)|fail)
    with_reducible apply At.begins hrec
    ·rfl
    with_reducible refine At.code ?_
    repeat' (first|refine Ctl.h ?_ |((with_reducible intro hif);first |(focus (cases hif;done)) |((try simp only[JH]at hif);try exact hy_)) |((with_reducible first|apply J22 zj_ za_|apply J23 fol zj_ za_|apply J24);(·rfl);(· exact k156_);(try kernel_rfl);try exact yr_)|fail)
    with_reducible apply At.roundNormal
    ·exact k138_
    apply hnext
    with_reducible apply At.runEnd zj_ za_
    ·rfl
    ·rfl
    ·rfl
    ·exact k137_
    ·exact xd_
    repeat' (first|refine Ctl.h ?_ |((with_reducible intro hif);first |(focus (cases hif;done)) |((try simp only[JH]at hif);try exact hy_)) |((with_reducible first|apply J22 zj_ za_|apply J23 fol zj_ za_|apply J24);(·rfl);(· exact k156_);(try kernel_rfl);try exact yr_)|fail)
    with_reducible apply At.itRet .ready
    ·rfl
    ·rfl
    ·intro h;cases h
    apply haft
    intro w1 M1 D1 hA
    dsimp only
    rw[nilOr_f hDe]
    repeat' (first|refine Ctl.h ?_ |((with_reducible intro hif);first |(focus (cases hif;done)) |((try simp only[JH]at hif);try exact hy_)) |((with_reducible first|apply J22 zj_ za_|apply J23 fol zj_ za_|apply J24);(·rfl);(· exact k156_);(try kernel_rfl);try exact yr_)|fail)
    apply At.endsPick [0,1,2,3,4,19] za_ (fn:=Tryz.f14) (rs:=[.tmp 12,.tmp 13]) hA hro (lb_ rfl) rfl
    ·exact yl_
    ·exact xz_
    ·rfl
    ·rfl
    ·rfl
    ·exact k40_
    ·rfl
    ·exact k148_
    ·exact k9_
    ·exact fun β=>rfl
    ·exact k148_
   ·rw[nilOr_t hDe]
    repeat' (first|refine Ctl.h ?_ |((with_reducible intro hif);first |(focus (cases hif;done)) |((try simp only[JH]at hif);try exact hy_)) |((with_reducible first|apply J22 zj_ za_|apply J23 fol zj_ za_|apply J24);(·rfl);(· exact k155_);(try kernel_rfl);try exact yr_)|fail)
    with_reducible apply WF.split 3 5
    ·rfl
    with_reducible apply At.run zj_ za_
    ·rfl
    ·rfl
    ·rfl
    ·exact k137_
    ·exact xd_
    with_reducible apply At.yield (gr:=_)
    ·rfl
    ·rfl
    ·rfl
    ·rfl
    ·rfl
    ·rfl
    ·exact k137_
    ·exact k138_
    ·exact k137_
    ·exact xd_
    ·exact k137_
    ·exact xd_
    ·exact k138_
    ·exact hrec
    ·exact hcf
    ·rfl
    ·rfl
    ·rfl
    intro lb E2 next hE2 hnext
    repeat' (first|refine Ctl.h ?_ |((with_reducible intro hif);first |(focus (cases hif;done)) |((try simp only[JH]at hif);try exact hy_)) |((with_reducible first|apply J22 zj_ za_|apply J23 fol zj_ za_|apply J24);(·rfl);(· exact k156_);(try kernel_rfl);try exact yr_)|fail)
    with_reducible apply At.begins hrec
    ·rfl
    with_reducible refine At.code ?_
    repeat' (first|refine Ctl.h ?_ |((with_reducible intro hif);first |(focus (cases hif;done)) |((try simp only[JH]at hif);try exact hy_)) |((with_reducible first|apply J22 zj_ za_|apply J23 fol zj_ za_|apply J24);(·rfl);(· exact k156_);(try kernel_rfl);try exact yr_)|fail)
    with_reducible apply At.roundNormal
    ·exact k138_
    apply hnext
    with_reducible apply At.runEnd zj_ za_
    ·rfl
    ·rfl
    ·rfl
    ·exact k137_
    ·exact xd_
    repeat' (first|refine Ctl.h ?_ |((with_reducible intro hif);first |(focus (cases hif;done)) |((try simp only[JH]at hif);try exact hy_)) |((with_reducible first|apply J22 zj_ za_|apply J23 fol zj_ za_|apply J24);(·rfl);(· exact k156_);(try kernel_rfl);try exact yr_)|fail)
    with_reducible apply At.itRet .ready
    ·rfl
    ·rfl
    ·intro h;cases h
    apply haft
    intro w1 M1 D1 hA
    dsimp only
    rw[nilOr_t hDe]
    repeat' (first|refine Ctl.h ?_ |((with_reducible intro hif);first |(focus (cases hif;done)) |((try simp only[JH]at hif);try exact hy_)) |((with_reducible first|apply J22 zj_ za_|apply J23 fol zj_ za_|apply J24);(·rfl);(· exact k156_);(try kernel_rfl);try exact yr_)|fail)
    apply At.endsPick [0,1,2,3,4,19] za_ (fn:=Tryz.f14) (rs:=[.tmp 12,.tmp 13]) hA hro (lb_ rfl) rfl
    ·exact yl_
    ·exact xz_
    ·rfl
    ·rfl
    ·rfl
    ·exact k40_
    ·rfl
    ·exact k148_
    ·exact k9_
    ·exact fun β=>rfl
    ·exact k148_
 ·rw[x9_ rfl]at hr1
  subst hr1
  cases hDe:tr.isEmpty
  ·rw[nilOr_f hDe]
   repeat' (first|refine Ctl.h ?_ |((with_reducible intro hif);first |(focus (cases hif;done)) |((try simp only[JH]at hif);try exact hy_)) |((with_reducible first|apply J22 zj_ za_|apply J23 fol zj_ za_|apply J24);(·rfl);(· exact k156_);(try kernel_rfl);try exact yr_)|fail)
   with_reducible apply At.itNormal .ready
   ·rfl
   ·rfl
   ·intro h;cases h
   apply haft
   intro w1 M1 D1 hA
   dsimp only
   rw[nilOr_f hDe]
   repeat' (first|refine Ctl.h ?_ |((with_reducible intro hif);first |(focus (cases hif;done)) |((try simp only[JH]at hif);try exact hy_)) |((with_reducible first|apply J22 zj_ za_|apply J23 fol zj_ za_|apply J24);(·rfl);(· exact k156_);(try kernel_rfl);try exact yr_)|fail)
   apply At.endsPick [0,1,2,3,4,19] za_ (fn:=Tryz.f14) (rs:=[.tmp 12,.tmp 13]) hA hro (lb_ rfl) rfl
   ·exact yl_
   ·exact xz_
   ·rfl
   ·rfl
   ·rfl
   ·exact k40_
   ·rfl
   ·exact k148_
   ·exact k9_
   ·exact fun β=>rfl
   ·exact k148_
  ·rw[nilOr_t hDe]
   repeat' (first|refine Ctl.h ?_ |((with_reducible intro hif);first |(focus (cases hif;done)) |((try simp only[JH]at hif);try exact hy_)) |((with_reducible first|apply J22 zj_ za_|apply J23 fol zj_ za_|apply J24);(·rfl);(· exact k156_);(try kernel_rfl);try exact yr_)|fail)
   with_reducible apply At.itNormal .ready
   ·rfl
   ·rfl
   ·intro h;cases h
   apply haft
   intro w1 M1 D1 hA
   dsimp only
   rw[nilOr_t hDe]
   repeat' (first|refine Ctl.h ?_ |((with_reducible intro hif);first |(focus (cases hif;done)) |((try simp only[JH]at hif);try exact hy_)) |((with_reducible first|apply J22 zj_ za_|apply J23 fol zj_ za_|apply J24);(·rfl);(· exact k156_);(try kernel_rfl);try exact yr_)|fail)
   apply At.endsPick [0,1,2,3,4,19] za_ (fn:=Tryz.f14) (rs:=[.tmp 12,.tmp 13]) hA hro (lb_ rfl) rfl
   ·exact yl_
   ·exact xz_
   ·rfl
   ·rfl
   ·rfl
   ·exact k40_
   ·rfl
   ·exact k148_
   ·exact k9_
   ·exact fun β=>rfl
   ·exact k148_
end Go.Proofs.YtjliakjbdcplcaaGreat.Vm
end
section
open Go.Proofs.YtjliakjbdcplcaaGreat.Vm Go.RowKit
attribute [local push_cast] prS zo_ zp_ xt_ y8_ y7_ y6_ y5_ y4_ xs_ y3_ y2_ y1_ zn_ z2_ z4_ z1_ zu_ zt_ iOf
section
namespace Go.Proofs.YtjliakjbdcplcaaGreat.Vm
open Go.RowKit
theorem Trace_rej (P:List Ins)(v:Evi)(t s q o y d f:Int)(cs:List Int)(p1 p2:Nat)(hok:∀x∈P,x.ok)(hn:P.length≤1000000)(hc:cs.length≤1000000)(hE:ropE P v (yo_ y t s cs d) f≠0):zs_ Tryz.prog 14 [.sl 1 2 [] 5 0 P.length (some p1),.agg [.int .u64 v.seed,.int .i64 v.process,.int .i64 v.ports,.int .i64 v.look,.int .i64 v.now],.agg [.agg [.int .i64 t,.int .i64 s,.int .i64 q],.int .i64 o,.int .i64 y],.sl 3 4 [] 1 0 cs.length (some p2),.int .i64 d,.int .i64 f]
  [.gone,.gone,.ro (.arr P.length 5 (prS P)),.gone,.ro (.arr cs.length 1 (zp_ cs))]
  (.tup [.sl 0 0 [] 0 0 0 (some 0),.int .i64 (ropE P v (yo_ y t s cs d) f)]) [.gone,.gone,.gone,.gone,.gone,.own 3 (.arr 0 1 (zp_ [])) false]:=by
 obtain⟨s0,hs0⟩:∃s0,yo_ y t s cs d=s0:=⟨_,rfl⟩
 rw[hs0]at hE ⊢
 refine zf_ (fn:=Tryz.f14) 5 46 0 rfl rfl rfl rfl rfl u20_ rfl fun w0 M E hro=>?_
 refine WF.empty 3 1 (zp_ []) (fun _ q=>yy_ q) ?_
 repeat' (first|refine Ctl.h ?_ |((with_reducible intro hif);first |(focus (cases hif;done)) |((try simp only[JH]at hif);try exact hy_)) |((with_reducible first|apply J22 cRej_ok za_|apply J23 fol cRej_ok za_|apply J24);(·rfl);(· exact k147_);(try kernel_rfl);try exact k146_)|fail)
 apply At.endsPick [0,1,2,3,4,5] za_ (fn:=Tryz.f14) (rs:=[.tmp 12,.tmp 13]) Anc.refl hro (lb_ rfl) rfl
 ·exact yl_
 ·exact xz_
 ·rfl
 ·rfl
 ·rfl
 ·exact k40_
 ·rfl
 ·exact k148_
 ·exact k9_
 ·exact fun β=>rfl
 ·exact k148_
theorem Trace_lit (P:List Ins)(v:Evi)(t s q o y d f:Int)(cs:List Int)(p1 p2:Nat)(hok:∀x∈P,x.ok)(hn:P.length≤1000000)(hc:cs.length≤1000000):zs_ Tryz.prog 14 [.sl 1 2 [] 5 0 P.length (some p1),.agg [.int .u64 v.seed,.int .i64 v.process,.int .i64 v.ports,.int .i64 v.look,.int .i64 v.now],.agg [.agg [.int .i64 t,.int .i64 s,.int .i64 q],.int .i64 o,.int .i64 y],.sl 3 4 [] 1 0 cs.length (some p2),.int .i64 d,.int .i64 f]
  [.gone,.gone,.ro (.arr P.length 5 (prS P)),.gone,.ro (.arr cs.length 1 (zp_ cs))]
  (.tup [nilOr (xp_ P v (yo_ y t s cs d) f).tr 5,.int .i64 (xp_ P v (yo_ y t s cs d) f).bad]) [.gone,.gone,.gone,.gone,.gone,.own 3 (.arr (xp_ P v (yo_ y t s cs d) f).tr.length 1 (zp_ (xp_ P v (yo_ y t s cs d) f).tr)) false]:=by
 by_cases hE:ropE P v (yo_ y t s cs d) f=0
 ·have e:xp_ P v (yo_ y t s cs d) f=xq_ P v f.toNat (yo_ y t s cs d) Ins0 [] 0:=by unfold xp_;rw[if_pos hE]
  obtain⟨hP,V⟩:=pg_of hok hE
  rw[e]
  exact Trace_go P v t s q o y d f cs p1 p2 hP V hc hE _ rfl
 ·have e:xp_ P v (yo_ y t s cs d) f=⟨[],0,ropE P v (yo_ y t s cs d) f,zeroSt,Ins0⟩:=by unfold xp_;rw[if_neg hE]
  rw[e]
  exact Trace_rej P v t s q o y d f cs p1 p2 hok hn hc hE
theorem TraceN_lit (P:List Ins)(v:Evi)(t s q o y d f:Int)(cs:List Int)(p1 p2:Nat)(hok:∀x∈P,x.ok)(hn:P.length≤1000000)(hc:cs.length≤1000000)(hD:(xp_ P v (yo_ y t s cs d) f).tr.isEmpty=true):zs_ Tryz.prog 14 [.sl 1 2 [] 5 0 P.length (some p1),.agg [.int .u64 v.seed,.int .i64 v.process,.int .i64 v.ports,.int .i64 v.look,.int .i64 v.now],.agg [.agg [.int .i64 t,.int .i64 s,.int .i64 q],.int .i64 o,.int .i64 y],.sl 3 4 [] 1 0 cs.length (some p2),.int .i64 d,.int .i64 f]
  [.gone,.gone,.ro (.arr P.length 5 (prS P)),.gone,.ro (.arr cs.length 1 (zp_ cs))]
  (.tup [.sl 0 0 [] 0 0 0 (some 0),.int .i64 (xp_ P v (yo_ y t s cs d) f).bad]) [.gone]:=by
 have H:=Trace_lit P v t s q o y d f cs p1 p2 hok hn hc
 rw[nilOr_t hD]at H
 intro w0 M β w R
 refine(H w0 M β w R).mono fun e w' ⟨β',h1,h2,h3,h4⟩=>⟨β',h1,h2.less (fun i=>?_) rfl (fun i=>?_),⟨⟨rfl,rfl⟩,trivial,trivial⟩,h4⟩
 ·rcases i with _|i
  ·exact .same _
  ·exact .dead _
 ·rcases i with _|i<;>trivial
theorem TraceS_lit (P:List Ins)(v:Evi)(t s q o y d f:Int)(cs:List Int)(p1 p2:Nat)(hok:∀x∈P,x.ok)(hn:P.length≤1000000)(hc:cs.length≤1000000)(hD:(xp_ P v (yo_ y t s cs d) f).tr.isEmpty=false):zs_ Tryz.prog 14 [.sl 1 2 [] 5 0 P.length (some p1),.agg [.int .u64 v.seed,.int .i64 v.process,.int .i64 v.ports,.int .i64 v.look,.int .i64 v.now],.agg [.agg [.int .i64 t,.int .i64 s,.int .i64 q],.int .i64 o,.int .i64 y],.sl 3 4 [] 1 0 cs.length (some p2),.int .i64 d,.int .i64 f]
  [.gone,.gone,.ro (.arr P.length 5 (prS P)),.gone,.ro (.arr cs.length 1 (zp_ cs))]
  (.tup [.sl 5 5 [] 1 0 (xp_ P v (yo_ y t s cs d) f).tr.length none,.int .i64 (xp_ P v (yo_ y t s cs d) f).bad]) [.gone,.gone,.gone,.gone,.gone,.own 3 (.arr (xp_ P v (yo_ y t s cs d) f).tr.length 1 (zp_ (xp_ P v (yo_ y t s cs d) f).tr)) false]:=by
 have H:=Trace_lit P v t s q o y d f cs p1 p2 hok hn hc
 rwa [nilOr_f hD]at H
def sTrN:yn_:=fun args h m=>match args with
 | [v1,.agg [v2,v3,v4,v5,v6],.agg [.agg [v7,v8,v9],v10,v11],v12,v13,v14]=>match xm_ h 5 (.tup []) v1,xm_ h 1 (.tup []) v12 with
  | some (c1,n1,f1,r1),some (c12,n12,f12,r12)=>bif isI .u64 v2 && isI .i64 v3 && isI .i64 v4 && isI .i64 v5 && isI .i64 v6 && isI .i64 v7 && isI .i64 v8 && isI .i64 v9 && isI .i64 v10 && isI .i64 v11 && isI .i64 v13 && isI .i64 v14 then some (c1∧c12∧(∀q,q < n1→isIns (f1 q)=true)∧(∀q,q < n12→isI .i64 (f12 q)=true)∧((∀x∈(ls zm_ n1 f1),x.ok))∧(n1≤1000000)∧(n12≤1000000)∧((xp_ (ls zm_ n1 f1) ⟨(iOf v2),(iOf v3),(iOf v4),(iOf v5),(iOf v6)⟩ (yo_ (iOf v11) (iOf v7) (iOf v8) (ls iOf n12 f12) (iOf v13)) (iOf v14)).tr.isEmpty=true),.tup [.sl 0 0 [] 0 0 0 (some 0),.int .i64 (xp_ (ls zm_ n1 f1) ⟨(iOf v2),(iOf v3),(iOf v4),(iOf v5),(iOf v6)⟩ (yo_ (iOf v11) (iOf v7) (iOf v8) (ls iOf n12 f12) (iOf v13)) (iOf v14)).bad],r1++r12,[])else none
  | _,_=>none
 | _=>none
theorem sTrN_ok:zi_ Tryz.prog 14 sTrN:=by
 refine⟨zg_ (by kernel_rfl),fun args h m c v rd wr hs hm hc w0 M β h' w R hrd hwr hst=>?_⟩
 unfold sTrN at hs
 split at hs
 ·rename_i v1 v2 v3 v4 v5 v6 v7 v8 v9 v10 v11 v12 v13 v14
  split at hs
  ·rename_i c1 n1 f1 r1 c12 n12 f12 r12 a1 a12
   obtain⟨hb,hs⟩:=zl_ hs
   simp only[Option.some.injEq,Prod.mk.injEq]at hs
   obtain⟨rfl,rfl,rfl,rfl⟩:=hs
   simp only[Bool.and_eq_true]at hb
   obtain⟨⟨⟨⟨⟨⟨⟨⟨⟨⟨⟨b2,b3⟩,b4⟩,b5⟩,b6⟩,b7⟩,b8⟩,b9⟩,b10⟩,b11⟩,b13⟩,b14⟩:=hb
   obtain⟨k1,k12,g1,g12,y1,y2,y3,y4⟩:=hc
   obtain⟨A1,p1,d1,e1,t1⟩:=zh_ R a1 k1 (fun i hi=>hrd i (List.mem_append_left _ hi)) (by omega)
   obtain⟨A12,p12,d12,e12,t12⟩:=zh_ R a12 k12 (fun i hi=>hrd i (List.mem_append_right _ hi)) (by omega)
   refine yh_ (views:=[⟨5,(ls zm_ n1 f1).length,prS (ls zm_ n1 f1),A1,p1⟩,⟨1,(ls iOf n12 f12).length,zp_ (ls iOf n12 f12),A12,p12⟩]) (TraceN_lit (ls zm_ n1 f1) ⟨(iOf v2),(iOf v3),(iOf v4),(iOf v5),(iOf v6)⟩ (iOf v7) (iOf v8) (iOf v9) (iOf v10) (iOf v11) (iOf v13) (iOf v14) (ls iOf n12 f12) p1 p12 y1 (by rw[zb_];exact y2) (by rw[zb_];exact y3) y4) ?_ R hm hwr ?_ ?_ ?_
   ·exact d43_
   ·exact d46_
   ·exact k148_
   ·exact k148_
  ·cases hs
 ·cases hs
def sTrS:yn_:=fun args h m=>match args with
 | [v1,.agg [v2,v3,v4,v5,v6],.agg [.agg [v7,v8,v9],v10,v11],v12,v13,v14]=>match xm_ h 5 (.tup []) v1,xm_ h 1 (.tup []) v12 with
  | some (c1,n1,f1,r1),some (c12,n12,f12,r12)=>bif isI .u64 v2 && isI .i64 v3 && isI .i64 v4 && isI .i64 v5 && isI .i64 v6 && isI .i64 v7 && isI .i64 v8 && isI .i64 v9 && isI .i64 v10 && isI .i64 v11 && isI .i64 v13 && isI .i64 v14 then some (c1∧c12∧(∀q,q < n1→isIns (f1 q)=true)∧(∀q,q < n12→isI .i64 (f12 q)=true)∧((∀x∈(ls zm_ n1 f1),x.ok))∧(n1≤1000000)∧(n12≤1000000)∧((xp_ (ls zm_ n1 f1) ⟨(iOf v2),(iOf v3),(iOf v4),(iOf v5),(iOf v6)⟩ (yo_ (iOf v11) (iOf v7) (iOf v8) (ls iOf n12 f12) (iOf v13)) (iOf v14)).tr.isEmpty=false),.tup [.sl m m [] 1 0 (xp_ (ls zm_ n1 f1) ⟨(iOf v2),(iOf v3),(iOf v4),(iOf v5),(iOf v6)⟩ (yo_ (iOf v11) (iOf v7) (iOf v8) (ls iOf n12 f12) (iOf v13)) (iOf v14)).tr.length none,.int .i64 (xp_ (ls zm_ n1 f1) ⟨(iOf v2),(iOf v3),(iOf v4),(iOf v5),(iOf v6)⟩ (yo_ (iOf v11) (iOf v7) (iOf v8) (ls iOf n12 f12) (iOf v13)) (iOf v14)).bad],r1++r12,[(m,.own 3 (.arr (xp_ (ls zm_ n1 f1) ⟨(iOf v2),(iOf v3),(iOf v4),(iOf v5),(iOf v6)⟩ (yo_ (iOf v11) (iOf v7) (iOf v8) (ls iOf n12 f12) (iOf v13)) (iOf v14)).tr.length 1 (zp_ (xp_ (ls zm_ n1 f1) ⟨(iOf v2),(iOf v3),(iOf v4),(iOf v5),(iOf v6)⟩ (yo_ (iOf v11) (iOf v7) (iOf v8) (ls iOf n12 f12) (iOf v13)) (iOf v14)).tr)) false)])else none
  | _,_=>none
 | _=>none
theorem sTrS_ok:zi_ Tryz.prog 14 sTrS:=by
 refine⟨zg_ (by kernel_rfl),fun args h m c v rd wr hs hm hc w0 M β h' w R hrd hwr hst=>?_⟩
 unfold sTrS at hs
 split at hs
 ·rename_i v1 v2 v3 v4 v5 v6 v7 v8 v9 v10 v11 v12 v13 v14
  split at hs
  ·rename_i c1 n1 f1 r1 c12 n12 f12 r12 a1 a12
   obtain⟨hb,hs⟩:=zl_ hs
   simp only[Option.some.injEq,Prod.mk.injEq]at hs
   obtain⟨rfl,rfl,rfl,rfl⟩:=hs
   simp only[Bool.and_eq_true]at hb
   obtain⟨⟨⟨⟨⟨⟨⟨⟨⟨⟨⟨b2,b3⟩,b4⟩,b5⟩,b6⟩,b7⟩,b8⟩,b9⟩,b10⟩,b11⟩,b13⟩,b14⟩:=hb
   obtain⟨k1,k12,g1,g12,y1,y2,y3,y4⟩:=hc
   obtain⟨A1,p1,d1,e1,t1⟩:=zh_ R a1 k1 (fun i hi=>hrd i (List.mem_append_left _ hi)) (by omega)
   obtain⟨A12,p12,d12,e12,t12⟩:=zh_ R a12 k12 (fun i hi=>hrd i (List.mem_append_right _ hi)) (by omega)
   refine yh_ (views:=[⟨5,(ls zm_ n1 f1).length,prS (ls zm_ n1 f1),A1,p1⟩,⟨1,(ls iOf n12 f12).length,zp_ (ls iOf n12 f12),A12,p12⟩]) (TraceS_lit (ls zm_ n1 f1) ⟨(iOf v2),(iOf v3),(iOf v4),(iOf v5),(iOf v6)⟩ (iOf v7) (iOf v8) (iOf v9) (iOf v10) (iOf v11) (iOf v13) (iOf v14) (ls iOf n12 f12) p1 p12 y1 (by rw[zb_];exact y2) (by rw[zb_];exact y3) y4) ?_ R hm hwr ?_ ?_ ?_
   ·exact d43_
   ·exact d46_
   ·exact k148_
   ·exact k148_
  ·cases hs
 ·cases hs
def rvS (e a b c u:Nat)(w:Bool):SV:=.agg [.ptr e [],.fn 83 [.ptr a [],.ptr b [],.ptr c []],.nat .i64 u,.bool w]
def rB (e a b c u:Nat)(w:Bool):HB:=.own 52 (rvS e a b c u w) true
theorem rnone_lit (u:Nat)(w:Bool):zs_ Tryz.prog 51 [.ptr 1 []] [.gone,rB 2 3 4 5 u w,.gone,.gone,.gone,.gone] (.bool false) [.gone,rB 2 3 4 5 u w,.gone,.gone,.gone,.gone]:=by
 refine zf_ (fn:=Tryz.f51) 6 12 0 rfl rfl rfl rfl rfl u21_ rfl fun w0 M E hro=>?_
 repeat' (first|refine Ctl.h ?_ |((with_reducible intro hif);first |(focus (cases hif;done)) |((try simp only[JH]at hif);try exact hy_)) |((with_reducible first|apply J22 zv_ za_|apply J23 fol zv_ za_|apply J24);(·rfl);(· (simp only[push_cast,↓JP,Nat.reduceAdd,Nat.reduceEqDiff,Nat.reduceLT,Nat.reduceMul,Nat.reduceLeDiff,reduceCtorEq,reduceIte,↓JK,rB,rvS,inR,inN];rfl));(try kernel_rfl);try exact k15_)|fail)
 apply At.endsPick [0,1,2,3,4,5] za_ (fn:=Tryz.f51) (rs:=[.tmp 2]) Anc.refl hro (lb_ rfl) rfl
 ·exact yl_
 ·exact xz_
 ·rfl
 ·rfl
 ·rfl
 ·exact k40_
 ·rfl
 ·exact k151_
 ·exact k9_
 ·exact fun β=>rfl
 ·exact k151_
end Go.Proofs.YtjliakjbdcplcaaGreat.Vm
end
end

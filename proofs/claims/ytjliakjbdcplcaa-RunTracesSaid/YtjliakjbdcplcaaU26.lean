import Derived.Test.YtjliakjbdcplcaaU1
import Derived.Test.YtjliakjbdcplcaaU20
set_option linter.unusedSimpArgs false
set_option linter.unusedVariables false
set_option maxRecDepth 100000
set_option maxHeartbeats 4000000
section
namespace Go.Proofs.Ytjliakjbdcplcaa.Vm
open Go.RowKit
attribute [local push_cast] eqB eqBL allB prS zt_ i64S xo_ y3_ y2_ y1_ y0_ yz_ xn_ yy_ yx_ yw_ zy_ zv_ zw_ zu_ y5_ y4_ iOf JE inR inN
theorem nilOr_app (D:List Int)(z:Int):(D++[z]).isEmpty=false:=by cases D<;>rfl
theorem Trace_go (P:List Ins)(v:Evi)(t s q o y d f:Int)(cs:List Int)(p1 p2:Nat)(hP:PG P)(V:VOk v)(hc:cs.length≤1000000)(hE:ropE P v (ya_ y t s cs d) f=0)(r:RR)(hr:runA P v f.toNat (ya_ y t s cs d) Ins0 [] 0=r):yc_ Try.prog 25 [.sl 1 2 [] 5 0 P.length (some p1),.agg [.int .u64 v.seed,.int .i64 v.process,.int .i64 v.ports,.int .i64 v.look,.int .i64 v.now],.agg [.agg [.int .i64 t,.int .i64 s,.int .i64 q],.int .i64 o,.int .i64 y],.sl 3 4 [] 1 0 cs.length (some p2),.int .i64 d,.int .i64 f]
  [.gone,.gone,.ro (.arr P.length 5 (prS P)),.gone,.ro (.arr cs.length 1 (i64S cs))]
  (.tup [nilOr r.tr 5,.int .i64 r.bad]) [.gone,.gone,.gone,.gone,.gone,.own 3 (.arr r.tr.length 1 (i64S r.tr)) false]:=by
 have hok:=hP.ok
 have hn:=hP.len
 have hn':P.length≤1000000:=by omega
 have hf:=(ropE_zero hE).1
 have hO:=openE_zero (ropE_zero hE).2
 have hG:SG P (ya_ y t s cs d):=SG.of hO.2.2 (by simp[ya_])
 obtain⟨s0,hs0⟩:∃s0,ya_ y t s cs d=s0:=⟨_,rfl⟩
 rw[hs0]at hE hr hG
 refine zm_ (fn:=Try.f25) 5 46 0 rfl rfl rfl rfl rfl u8_ rfl fun w0 M E hro=>?_
 repeat' (first|refine Ctl.h ?_ |((with_reducible intro hif);first |(focus (cases hif;done)) |((try simp only[JH]at hif);try exact hy_)) |((with_reducible first|apply J22 ze_ za_|apply J23 fol ze_ za_|apply J24);(·rfl);(· (simp only[push_cast,↓JP,Nat.reduceAdd,Nat.reduceEqDiff,Nat.reduceLT,Nat.reduceMul,Nat.reduceLeDiff,reduceCtorEq,reduceIte,↓JK,cRun,sRoG,sSteps,hs0,hE];rfl));(try kernel_rfl);(try (focus (first|exact True.intro |((try simp only[JS,implies_true,forall_const,z3_,z5_,kndOf]);(first|first|omega|exact⟨hok,hn',hc⟩ |(repeat' (first|assumption|exact True.intro|omega|apply And.intro)));done)))))|fail)
 with_reducible apply WF.range (fn':=Try.f73) 28
 ·exact k42_
 ·exact yq_
 ·rfl
 ·rfl
 ·rfl
 ·rfl
 ·rfl
 ·rfl
 ·rfl
 intro E1 rec tmps after hE1 hrec hcf haft
 repeat' (first|refine Ctl.h ?_ |((with_reducible intro hif);first |(focus (cases hif;done)) |((try simp only[JH]at hif);try exact hy_)) |((with_reducible first|apply J22 ze_ za_|apply J23 fol ze_ za_|apply J24);(·rfl);(· (simp only[push_cast,↓JP,Nat.reduceAdd,Nat.reduceEqDiff,Nat.reduceLT,Nat.reduceMul,Nat.reduceLeDiff,reduceCtorEq,reduceIte,↓JK,JM,engP,prP,macP,ym_,memN,eB,prO,pbB,fbB];rfl));(try kernel_rfl);try exact z9_)|fail)
 refine At.pick (L2:=[.gone,.gone,.ro (.arr P.length 5 (prS P)),.gone,.ro (.arr cs.length 1 (i64S cs)),.gone,.gone,eB 8 11 P.length,mB s0 v Ins0 9 18,cB s0,.gone,prO P,.own 46 (.int .i64 0) true,.own 69 (.sl 0 0 [] 0 0 0 (some 0)) true,pbB 7,fbB f,.raw (.deferred (some [])),.raw (.loop (rec .ready none)),sB s0]) (φ2:=[(0,.yl 17),(1,.ptr 14 []),(2,.ptr 15 []),(4,.nat .i64 0)]) [0,1,2,3,4,5,6,7,8,9,10,11,12,13,14,15,16,17,10] rfl rfl rfl ?_ rfl ?_ ?_ ?_ rfl ?_
 ·exact k24_
 ·exact k88_
 ·exact k45_
 ·exact k88_
 refine WF.empty 3 1 (i64S []) (fun _ q=>i64S_stable q) ?_
 refine WF.loopAt (fun (z:RS)=>RInv P v f r z) (fun (z:RS)=>[(0,.yl 17),(1,.ptr 14 []),(2,.ptr 15 []),(4,.nat .i64 z.k)]) (fun (z:RS)=>[.gone,.gone,.ro (.arr P.length 5 (prS P)),.gone,.ro (.arr cs.length 1 (i64S cs)),.gone,.gone,eB 8 11 P.length,mB z.s v z.x 9 18,cB z.s,.gone,prO P,.own 46 (.int .i64 0) true,.own 69 (nilOr z.tr 19) true,pbB 7,fbB f,.raw (.deferred (some [])),.raw (.loop (rec .ready none)),sB z.s,.own 3 (.arr z.tr.length 1 (i64S z.tr)) false]) (fun (z:RS)=>f.toNat - z.k) ⟨0,s0,Ins0,[],0⟩ ⟨Nat.zero_le _,hG,rfl,hr⟩ ?_ ?_ rfl ?_ ?_ rfl ?_
 ·exact k28_
 ·exact k7_
 ·exact k88_
 ·exact k88_
 rintro⟨k,⟨at1,en,rg,ce,dr,se⟩,x,tr,a⟩ ⟨hk,hg,hl,hr1⟩
 dsimp only at hk hg hl hr1 ⊢
 have htl:tr.length≤4096:=by omega
 cases en
 ·by_cases hkf:k < f.toNat
  ·have hkf2:(k:Int) < f:=by omega
   have hA1:∀g:Nat→SV,(∀q,q < tr.length+1→g q=SV.ite (decide (q < tr.length)) (.int .i64 (tr.getD q 0)) ([SV.int .i64 at1].getD (q - tr.length) (.nat .i64 0)))→∀σ,Less (.own 3 (.arr (tr.length+1) 1 g) false) ((HB.own 3 (.arr (tr++[at1]).length 1 (i64S (tr++[at1]))) false).ren σ):=fun g hg σ=>less_app tr at1 fun q hq β=>by
    rw[hg q hq,ite_eq]
    by_cases h:q < tr.length
    ·simp only[h,decide_true,cond_true,List.getD_eq_getElem?_getD,List.getElem?_append_left h];rfl
    ·obtain rfl:q=tr.length:=by omega
     simp only[Nat.lt_irrefl,decide_false,cond_false,Nat.sub_self,List.getD_eq_getElem?_getD,List.getElem?_append_right (Nat.le_refl _),List.getElem?_cons_zero,Option.getD_some];rfl
   have hA0:∀g:Nat→SV,(∀q,q < 0+1→g q=[SV.int .i64 at1].getD q (.nat .i64 0))→∀σ,Less (.own 3 (.arr (0+1) 1 g) false) ((HB.own 3 (.arr ([]++[at1]).length 1 (i64S ([]++[at1]))) false).ren σ):=fun g hg σ=>less_app [] at1 fun q hq β=>by
    rw[hg q hq]
    obtain rfl:q=0:=by simp at hq;omega
    rfl
   have hl2:(tr++[at1]).length=k+1:=by simp[hl]
   have hn190:=stepE_ne190 P v ⟨at1,false,rg,ce,dr,se⟩
   by_cases hst:stepE P v ⟨at1,false,rg,ce,dr,se⟩=0
   ·cases hDe:tr.isEmpty
    ·rw[nilOr_f hDe]
     repeat' (first|refine Ctl.h ?_ |((with_reducible intro hif);first |(focus (cases hif;done)) |((try simp only[JH]at hif);try exact hy_)) |((with_reducible first|apply J22 ze_ za_|apply J23 fol ze_ za_|apply J24);(·rfl);(· exact k90_);(try kernel_rfl);try exact z9_)|fail)
     with_reducible apply WF.split 3 5
     ·rfl
     with_reducible apply At.run ze_ za_
     ·rfl
     ·rfl
     ·rfl
     ·exact k46_
     ·exact k47_
     with_reducible apply At.yield (gr:=_)
     ·rfl
     ·rfl
     ·rfl
     ·rfl
     ·rfl
     ·rfl
     ·exact k46_
     ·exact k48_
     ·exact k46_
     ·exact k47_
     ·exact k46_
     ·exact k47_
     ·exact k48_
     ·exact hrec
     ·exact hcf
     ·rfl
     ·rfl
     ·rfl
     intro lb E2 next hE2 hnext
     repeat' (first|refine Ctl.h ?_ |((with_reducible intro hif);first |(focus (cases hif;done)) |((try simp only[JH]at hif);try exact hy_)) |((with_reducible first|apply J22 ze_ za_|apply J23 fol ze_ za_|apply J24);(·rfl);(· exact k91_);(try kernel_rfl);try exact z9_)|fail)
     with_reducible apply At.begins hrec
     ·rfl
     with_reducible refine At.code ?_
     repeat' (first|refine Ctl.h ?_ |((with_reducible intro hif);first |(focus (cases hif;done)) |((try simp only[JH]at hif);try exact hy_)) |((with_reducible first|apply J22 ze_ za_|apply J23 fol ze_ za_|apply J24);(·rfl);(· exact k92_);(try kernel_rfl);try exact z9_)|fail)
     with_reducible apply At.roundNormal
     ·exact k48_
     apply hnext
     with_reducible apply At.runEnd ze_ za_
     ·rfl
     ·rfl
     ·rfl
     ·exact k46_
     ·exact k47_
     repeat' (first|refine Ctl.h ?_ |((with_reducible intro hif);first |(focus (cases hif;done)) |((try simp only[JH]at hif);try exact hy_)) |((with_reducible first|apply J22 ze_ za_|apply J23 fol ze_ za_|apply J24);(·rfl);(· exact k91_);(try kernel_rfl);try exact z9_)|fail)
     refine At.nextPick [0,1,2,3,4,5,6,7,8,9,10,11,12,13,14,15,16,17,20,22] ⟨k+1,stepS P v ⟨at1,false,rg,ce,dr,se⟩,stepX P ⟨at1,false,rg,ce,dr,se⟩ x,tr++[at1],at1⟩ ?_ rfl rfl rfl ?_ rfl ?_ ?_ ?_ rfl
     ·exact k65_
     ·exact k89_
     ·exact k88_
     ·exact k45_
     ·exact k88_
    ·rw[nilOr_t hDe]
     have hDz:tr=[]:=by simpa using hDe
     subst hDz
     repeat' (first|refine Ctl.h ?_ |((with_reducible intro hif);first |(focus (cases hif;done)) |((try simp only[JH]at hif);try exact hy_)) |((with_reducible first|apply J22 ze_ za_|apply J23 fol ze_ za_|apply J24);(·rfl);(· exact k90_);(try kernel_rfl);try exact z9_)|fail)
     with_reducible apply WF.split 3 5
     ·rfl
     with_reducible apply At.run ze_ za_
     ·rfl
     ·rfl
     ·rfl
     ·exact k46_
     ·exact k47_
     with_reducible apply At.yield (gr:=_)
     ·rfl
     ·rfl
     ·rfl
     ·rfl
     ·rfl
     ·rfl
     ·exact k46_
     ·exact k48_
     ·exact k46_
     ·exact k47_
     ·exact k46_
     ·exact k47_
     ·exact k48_
     ·exact hrec
     ·exact hcf
     ·rfl
     ·rfl
     ·rfl
     intro lb E2 next hE2 hnext
     repeat' (first|refine Ctl.h ?_ |((with_reducible intro hif);first |(focus (cases hif;done)) |((try simp only[JH]at hif);try exact hy_)) |((with_reducible first|apply J22 ze_ za_|apply J23 fol ze_ za_|apply J24);(·rfl);(· exact k91_);(try kernel_rfl);try exact z9_)|fail)
     with_reducible apply At.begins hrec
     ·rfl
     with_reducible refine At.code ?_
     repeat' (first|refine Ctl.h ?_ |((with_reducible intro hif);first |(focus (cases hif;done)) |((try simp only[JH]at hif);try exact hy_)) |((with_reducible first|apply J22 ze_ za_|apply J23 fol ze_ za_|apply J24);(·rfl);(· exact k92_);(try kernel_rfl);try exact z9_)|fail)
     with_reducible apply At.roundNormal
     ·exact k48_
     apply hnext
     with_reducible apply At.runEnd ze_ za_
     ·rfl
     ·rfl
     ·rfl
     ·exact k46_
     ·exact k47_
     repeat' (first|refine Ctl.h ?_ |((with_reducible intro hif);first |(focus (cases hif;done)) |((try simp only[JH]at hif);try exact hy_)) |((with_reducible first|apply J22 ze_ za_|apply J23 fol ze_ za_|apply J24);(·rfl);(· exact k91_);(try kernel_rfl);try exact z9_)|fail)
     refine At.nextPick [0,1,2,3,4,5,6,7,8,9,10,11,12,13,14,15,16,17,20,22] ⟨k+1,stepS P v ⟨at1,false,rg,ce,dr,se⟩,stepX P ⟨at1,false,rg,ce,dr,se⟩ x,[]++[at1],at1⟩ ?_ rfl rfl rfl ?_ rfl ?_ ?_ ?_ rfl
     ·exact k65_
     ·exact k89_
     ·exact k88_
     ·exact k45_
     ·exact k88_
   ·rw[runA_bad rfl (by omega) hst]at hr1
    subst hr1
    have hnf:nilOr (tr++[at1]) 5=.sl 5 5 [] 1 0 (tr++[at1]).length none:=nilOr_f (nilOr_app tr at1)
    cases hDe:tr.isEmpty
    ·rw[nilOr_f hDe]
     repeat' (first|refine Ctl.h ?_ |((with_reducible intro hif);first |(focus (cases hif;done)) |((try simp only[JH]at hif);try exact hy_)) |((with_reducible first|apply J22 ze_ za_|apply J23 fol ze_ za_|apply J24);(·rfl);(· exact k90_);(try kernel_rfl);try exact z9_)|fail)
     with_reducible apply WF.split 3 5
     ·rfl
     with_reducible apply At.run ze_ za_
     ·rfl
     ·rfl
     ·rfl
     ·exact k46_
     ·exact k47_
     with_reducible apply At.yield (gr:=_)
     ·rfl
     ·rfl
     ·rfl
     ·rfl
     ·rfl
     ·rfl
     ·exact k46_
     ·exact k48_
     ·exact k46_
     ·exact k47_
     ·exact k46_
     ·exact k47_
     ·exact k48_
     ·exact hrec
     ·exact hcf
     ·rfl
     ·rfl
     ·rfl
     intro lb E2 next hE2 hnext
     repeat' (first|refine Ctl.h ?_ |((with_reducible intro hif);first |(focus (cases hif;done)) |((try simp only[JH]at hif);try exact hy_)) |((with_reducible first|apply J22 ze_ za_|apply J23 fol ze_ za_|apply J24);(·rfl);(· exact k91_);(try kernel_rfl);try exact z9_)|fail)
     with_reducible apply At.begins hrec
     ·rfl
     with_reducible refine At.code ?_
     repeat' (first|refine Ctl.h ?_ |((with_reducible intro hif);first |(focus (cases hif;done)) |((try simp only[JH]at hif);try exact hy_)) |((with_reducible first|apply J22 ze_ za_|apply J23 fol ze_ za_|apply J24);(·rfl);(· exact k92_);(try kernel_rfl);try exact z9_)|fail)
     with_reducible apply At.roundNormal
     ·exact k48_
     apply hnext
     with_reducible apply At.runEnd ze_ za_
     ·rfl
     ·rfl
     ·rfl
     ·exact k46_
     ·exact k47_
     repeat' (first|refine Ctl.h ?_ |((with_reducible intro hif);first |(focus (cases hif;done)) |((try simp only[JH]at hif);try exact hy_)) |((with_reducible first|apply J22 ze_ za_|apply J23 fol ze_ za_|apply J24);(·rfl);(· exact k91_);(try kernel_rfl);try exact z9_)|fail)
     with_reducible apply At.itRet .ready
     ·rfl
     ·rfl
     ·intro h;cases h
     apply haft
     intro w1 M1 D1 hA
     dsimp only
     rw[hnf]
     repeat' (first|refine Ctl.h ?_ |((with_reducible intro hif);first |(focus (cases hif;done)) |((try simp only[JH]at hif);try exact hy_)) |((with_reducible first|apply J22 ze_ za_|apply J23 fol ze_ za_|apply J24);(·rfl);(· exact k91_);(try kernel_rfl);try exact z9_)|fail)
     apply At.endsPick [0,1,2,3,4,22] za_ (fn:=Try.f25) (rs:=[.tmp 12,.tmp 13]) hA hro (lb_ rfl) rfl
     ·exact k5_
     ·exact yq_
     ·rfl
     ·rfl
     ·rfl
     ·exact k89_
     ·rfl
     ·exact k88_
     ·exact k9_
     ·exact fun β=>by rw[show (tr++[at1]).length=tr.length+1 by simp];rfl
     ·exact k88_
    ·rw[nilOr_t hDe]
     have hDz:tr=[]:=by simpa using hDe
     subst hDz
     repeat' (first|refine Ctl.h ?_ |((with_reducible intro hif);first |(focus (cases hif;done)) |((try simp only[JH]at hif);try exact hy_)) |((with_reducible first|apply J22 ze_ za_|apply J23 fol ze_ za_|apply J24);(·rfl);(· exact k90_);(try kernel_rfl);try exact z9_)|fail)
     with_reducible apply WF.split 3 5
     ·rfl
     with_reducible apply At.run ze_ za_
     ·rfl
     ·rfl
     ·rfl
     ·exact k46_
     ·exact k47_
     with_reducible apply At.yield (gr:=_)
     ·rfl
     ·rfl
     ·rfl
     ·rfl
     ·rfl
     ·rfl
     ·exact k46_
     ·exact k48_
     ·exact k46_
     ·exact k47_
     ·exact k46_
     ·exact k47_
     ·exact k48_
     ·exact hrec
     ·exact hcf
     ·rfl
     ·rfl
     ·rfl
     intro lb E2 next hE2 hnext
     repeat' (first|refine Ctl.h ?_ |((with_reducible intro hif);first |(focus (cases hif;done)) |((try simp only[JH]at hif);try exact hy_)) |((with_reducible first|apply J22 ze_ za_|apply J23 fol ze_ za_|apply J24);(·rfl);(· exact k91_);(try kernel_rfl);try exact z9_)|fail)
     with_reducible apply At.begins hrec
     ·rfl
     with_reducible refine At.code ?_
     repeat' (first|refine Ctl.h ?_ |((with_reducible intro hif);first |(focus (cases hif;done)) |((try simp only[JH]at hif);try exact hy_)) |((with_reducible first|apply J22 ze_ za_|apply J23 fol ze_ za_|apply J24);(·rfl);(· exact k92_);(try kernel_rfl);try exact z9_)|fail)
     with_reducible apply At.roundNormal
     ·exact k48_
     apply hnext
     with_reducible apply At.runEnd ze_ za_
     ·rfl
     ·rfl
     ·rfl
     ·exact k46_
     ·exact k47_
     repeat' (first|refine Ctl.h ?_ |((with_reducible intro hif);first |(focus (cases hif;done)) |((try simp only[JH]at hif);try exact hy_)) |((with_reducible first|apply J22 ze_ za_|apply J23 fol ze_ za_|apply J24);(·rfl);(· exact k91_);(try kernel_rfl);try exact z9_)|fail)
     with_reducible apply At.itRet .ready
     ·rfl
     ·rfl
     ·intro h;cases h
     apply haft
     intro w1 M1 D1 hA
     dsimp only
     rw[hnf]
     repeat' (first|refine Ctl.h ?_ |((with_reducible intro hif);first |(focus (cases hif;done)) |((try simp only[JH]at hif);try exact hy_)) |((with_reducible first|apply J22 ze_ za_|apply J23 fol ze_ za_|apply J24);(·rfl);(· exact k91_);(try kernel_rfl);try exact z9_)|fail)
     apply At.endsPick [0,1,2,3,4,22] za_ (fn:=Try.f25) (rs:=[.tmp 12,.tmp 13]) hA hro (lb_ rfl) rfl
     ·exact k5_
     ·exact yq_
     ·rfl
     ·rfl
     ·rfl
     ·exact k89_
     ·rfl
     ·exact k88_
     ·exact k9_
     ·exact fun β=>rfl
     ·exact k88_
  ·have e0:f.toNat - k=0:=by omega
   have hkf2:¬(k:Int) < f:=by omega
   rw[e0,runA_zero rfl]at hr1
   subst hr1
   cases hDe:tr.isEmpty
   ·rw[nilOr_f hDe]
    repeat' (first|refine Ctl.h ?_ |((with_reducible intro hif);first |(focus (cases hif;done)) |((try simp only[JH]at hif);try exact hy_)) |((with_reducible first|apply J22 ze_ za_|apply J23 fol ze_ za_|apply J24);(·rfl);(· exact k93_);(try kernel_rfl);try exact z9_)|fail)
    with_reducible apply WF.split 3 5
    ·rfl
    with_reducible apply At.run ze_ za_
    ·rfl
    ·rfl
    ·rfl
    ·exact k57_
    ·exact k47_
    with_reducible apply At.yield (gr:=_)
    ·rfl
    ·rfl
    ·rfl
    ·rfl
    ·rfl
    ·rfl
    ·exact k57_
    ·exact k58_
    ·exact k57_
    ·exact k47_
    ·exact k57_
    ·exact k47_
    ·exact k58_
    ·exact hrec
    ·exact hcf
    ·rfl
    ·rfl
    ·rfl
    intro lb E2 next hE2 hnext
    repeat' (first|refine Ctl.h ?_ |((with_reducible intro hif);first |(focus (cases hif;done)) |((try simp only[JH]at hif);try exact hy_)) |((with_reducible first|apply J22 ze_ za_|apply J23 fol ze_ za_|apply J24);(·rfl);(· exact k94_);(try kernel_rfl);try exact z9_)|fail)
    with_reducible apply At.begins hrec
    ·rfl
    with_reducible refine At.code ?_
    repeat' (first|refine Ctl.h ?_ |((with_reducible intro hif);first |(focus (cases hif;done)) |((try simp only[JH]at hif);try exact hy_)) |((with_reducible first|apply J22 ze_ za_|apply J23 fol ze_ za_|apply J24);(·rfl);(· exact k94_);(try kernel_rfl);try exact z9_)|fail)
    with_reducible apply At.roundNormal
    ·exact k58_
    apply hnext
    with_reducible apply At.runEnd ze_ za_
    ·rfl
    ·rfl
    ·rfl
    ·exact k57_
    ·exact k47_
    repeat' (first|refine Ctl.h ?_ |((with_reducible intro hif);first |(focus (cases hif;done)) |((try simp only[JH]at hif);try exact hy_)) |((with_reducible first|apply J22 ze_ za_|apply J23 fol ze_ za_|apply J24);(·rfl);(· exact k94_);(try kernel_rfl);try exact z9_)|fail)
    with_reducible apply At.itRet .ready
    ·rfl
    ·rfl
    ·intro h;cases h
    apply haft
    intro w1 M1 D1 hA
    dsimp only
    rw[nilOr_f hDe]
    repeat' (first|refine Ctl.h ?_ |((with_reducible intro hif);first |(focus (cases hif;done)) |((try simp only[JH]at hif);try exact hy_)) |((with_reducible first|apply J22 ze_ za_|apply J23 fol ze_ za_|apply J24);(·rfl);(· exact k94_);(try kernel_rfl);try exact z9_)|fail)
    apply At.endsPick [0,1,2,3,4,19] za_ (fn:=Try.f25) (rs:=[.tmp 12,.tmp 13]) hA hro (lb_ rfl) rfl
    ·exact k5_
    ·exact yq_
    ·rfl
    ·rfl
    ·rfl
    ·exact k24_
    ·rfl
    ·exact k88_
    ·exact k9_
    ·exact fun β=>rfl
    ·exact k88_
   ·rw[nilOr_t hDe]
    repeat' (first|refine Ctl.h ?_ |((with_reducible intro hif);first |(focus (cases hif;done)) |((try simp only[JH]at hif);try exact hy_)) |((with_reducible first|apply J22 ze_ za_|apply J23 fol ze_ za_|apply J24);(·rfl);(· exact k93_);(try kernel_rfl);try exact z9_)|fail)
    with_reducible apply WF.split 3 5
    ·rfl
    with_reducible apply At.run ze_ za_
    ·rfl
    ·rfl
    ·rfl
    ·exact k57_
    ·exact k47_
    with_reducible apply At.yield (gr:=_)
    ·rfl
    ·rfl
    ·rfl
    ·rfl
    ·rfl
    ·rfl
    ·exact k57_
    ·exact k58_
    ·exact k57_
    ·exact k47_
    ·exact k57_
    ·exact k47_
    ·exact k58_
    ·exact hrec
    ·exact hcf
    ·rfl
    ·rfl
    ·rfl
    intro lb E2 next hE2 hnext
    repeat' (first|refine Ctl.h ?_ |((with_reducible intro hif);first |(focus (cases hif;done)) |((try simp only[JH]at hif);try exact hy_)) |((with_reducible first|apply J22 ze_ za_|apply J23 fol ze_ za_|apply J24);(·rfl);(· exact k94_);(try kernel_rfl);try exact z9_)|fail)
    with_reducible apply At.begins hrec
    ·rfl
    with_reducible refine At.code ?_
    repeat' (first|refine Ctl.h ?_ |((with_reducible intro hif);first |(focus (cases hif;done)) |((try simp only[JH]at hif);try exact hy_)) |((with_reducible first|apply J22 ze_ za_|apply J23 fol ze_ za_|apply J24);(·rfl);(· exact k94_);(try kernel_rfl);try exact z9_)|fail)
    with_reducible apply At.roundNormal
    ·exact k58_
    apply hnext
    with_reducible apply At.runEnd ze_ za_
    ·rfl
    ·rfl
    ·rfl
    ·exact k57_
    ·exact k47_
    repeat' (first|refine Ctl.h ?_ |((with_reducible intro hif);first |(focus (cases hif;done)) |((try simp only[JH]at hif);try exact hy_)) |((with_reducible first|apply J22 ze_ za_|apply J23 fol ze_ za_|apply J24);(·rfl);(· exact k94_);(try kernel_rfl);try exact z9_)|fail)
    with_reducible apply At.itRet .ready
    ·rfl
    ·rfl
    ·intro h;cases h
    apply haft
    intro w1 M1 D1 hA
    dsimp only
    rw[nilOr_t hDe]
    repeat' (first|refine Ctl.h ?_ |((with_reducible intro hif);first |(focus (cases hif;done)) |((try simp only[JH]at hif);try exact hy_)) |((with_reducible first|apply J22 ze_ za_|apply J23 fol ze_ za_|apply J24);(·rfl);(· exact k94_);(try kernel_rfl);try exact z9_)|fail)
    apply At.endsPick [0,1,2,3,4,19] za_ (fn:=Try.f25) (rs:=[.tmp 12,.tmp 13]) hA hro (lb_ rfl) rfl
    ·exact k5_
    ·exact yq_
    ·rfl
    ·rfl
    ·rfl
    ·exact k24_
    ·rfl
    ·exact k88_
    ·exact k9_
    ·exact fun β=>rfl
    ·exact k88_
 ·rw[runA_end rfl]at hr1
  subst hr1
  cases hDe:tr.isEmpty
  ·rw[nilOr_f hDe]
   repeat' (first|refine Ctl.h ?_ |((with_reducible intro hif);first |(focus (cases hif;done)) |((try simp only[JH]at hif);try exact hy_)) |((with_reducible first|apply J22 ze_ za_|apply J23 fol ze_ za_|apply J24);(·rfl);(· exact k94_);(try kernel_rfl);try exact z9_)|fail)
   with_reducible apply At.itNormal .ready
   ·rfl
   ·rfl
   ·intro h;cases h
   apply haft
   intro w1 M1 D1 hA
   dsimp only
   rw[nilOr_f hDe]
   repeat' (first|refine Ctl.h ?_ |((with_reducible intro hif);first |(focus (cases hif;done)) |((try simp only[JH]at hif);try exact hy_)) |((with_reducible first|apply J22 ze_ za_|apply J23 fol ze_ za_|apply J24);(·rfl);(· exact k94_);(try kernel_rfl);try exact z9_)|fail)
   apply At.endsPick [0,1,2,3,4,19] za_ (fn:=Try.f25) (rs:=[.tmp 12,.tmp 13]) hA hro (lb_ rfl) rfl
   ·exact k5_
   ·exact yq_
   ·rfl
   ·rfl
   ·rfl
   ·exact k24_
   ·rfl
   ·exact k88_
   ·exact k9_
   ·exact fun β=>rfl
   ·exact k88_
  ·rw[nilOr_t hDe]
   repeat' (first|refine Ctl.h ?_ |((with_reducible intro hif);first |(focus (cases hif;done)) |((try simp only[JH]at hif);try exact hy_)) |((with_reducible first|apply J22 ze_ za_|apply J23 fol ze_ za_|apply J24);(·rfl);(· exact k94_);(try kernel_rfl);try exact z9_)|fail)
   with_reducible apply At.itNormal .ready
   ·rfl
   ·rfl
   ·intro h;cases h
   apply haft
   intro w1 M1 D1 hA
   dsimp only
   rw[nilOr_t hDe]
   repeat' (first|refine Ctl.h ?_ |((with_reducible intro hif);first |(focus (cases hif;done)) |((try simp only[JH]at hif);try exact hy_)) |((with_reducible first|apply J22 ze_ za_|apply J23 fol ze_ za_|apply J24);(·rfl);(· exact k94_);(try kernel_rfl);try exact z9_)|fail)
   apply At.endsPick [0,1,2,3,4,19] za_ (fn:=Try.f25) (rs:=[.tmp 12,.tmp 13]) hA hro (lb_ rfl) rfl
   ·exact k5_
   ·exact yq_
   ·rfl
   ·rfl
   ·rfl
   ·exact k24_
   ·rfl
   ·exact k88_
   ·exact k9_
   ·exact fun β=>rfl
   ·exact k88_
end Go.Proofs.Ytjliakjbdcplcaa.Vm
end

import Derived.Test.YtjliakjbdcplcaaU1
import Derived.Test.YtjliakjbdcplcaaU19
set_option linter.unusedSimpArgs false
set_option linter.unusedVariables false
set_option maxRecDepth 100000
set_option maxHeartbeats 4000000
section
open Go.Proofs.Ytjliakjbdcplcaa.Vm Go.RowKit
attribute [local push_cast] eqB eqBL allB prS zt_ i64S xo_ y3_ y2_ y1_ y0_ yz_ xn_ yy_ yx_ yw_ zy_ zv_ zw_ zu_ y5_ y4_ iOf
section
namespace Go.Proofs.Ytjliakjbdcplcaa.Vm
open Go.RowKit
theorem Run_bad (P:List Ins)(v:Evi)(t s q o y d f:Int)(cs:List Int)(p1 p2:Nat)(hP:PG P)(V:VOk v)(hc:cs.length≤1000000)(hE:ropE P v (ya_ y t s cs d) f=0)(r:RR)(hr:runA P v f.toNat (ya_ y t s cs d) Ins0 [] 0=r)(hb:r.bad≠0):yc_ Try.prog 29 [.sl 1 2 [] 5 0 P.length (some p1),.agg [.int .u64 v.seed,.int .i64 v.process,.int .i64 v.ports,.int .i64 v.look,.int .i64 v.now],.agg [.agg [.int .i64 t,.int .i64 s,.int .i64 q],.int .i64 o,.int .i64 y],.sl 3 4 [] 1 0 cs.length (some p2),.int .i64 d,.int .i64 f]
  [.gone,.gone,.ro (.arr P.length 5 (prS P)),.gone,.ro (.arr cs.length 1 (i64S cs))]
  (.tup [.agg [.nat .i64 r.tr.length,.int .i64 r.at_,.sl 0 0 [] 0 0 0 (some 0),.nat .i64 0,.sl 0 0 [] 0 0 0 (some 0)],.int .i64 r.bad]) [.gone]:=by
 have hok:=hP.ok
 have hn:=hP.len
 have hn':P.length≤1000000:=by omega
 have hf:=(ropE_zero hE).1
 have hO:=openE_zero (ropE_zero hE).2
 have hG:SG P (ya_ y t s cs d):=SG.of hO.2.2 (by simp[ya_])
 obtain⟨s0,hs0⟩:∃s0,ya_ y t s cs d=s0:=⟨_,rfl⟩
 rw[hs0]at hE hr hG
 have hl0:∀ex,Less (.own 45 (.agg [.nat .i64 0,.nat .i64 0,.sl 0 0 [] 0 0 0 (some 0),.nat .i64 0,.sl 0 0 [] 0 0 0 (some 0)]) ex) (.own 45 (.agg [.nat .i64 0,.int .i64 0,.sl 0 0 [] 0 0 0 (some 0),.nat .i64 0,.sl 0 0 [] 0 0 0 (some 0)]) ex):=fun ex=>less_res
 have hl1:=hl0 true
 refine zm_ (fn:=Try.f29) 5 66 0 rfl rfl rfl rfl rfl u8_ rfl fun w0 M E hro=>?_
 repeat' (first|refine Ctl.h ?_ |((with_reducible intro hif);first |(focus (cases hif;done)) |((try simp only[JH]at hif);try exact hy_)) |((with_reducible first|apply J22 ze_ za_|apply J23 fol ze_ za_|apply J24);(·rfl);(· exact k51_);(try kernel_rfl);try exact k50_)|fail)
 with_reducible apply WF.range (fn':=Try.f73) 28
 ·exact k42_
 ·exact yq_
 ·rfl
 ·rfl
 ·rfl
 ·rfl
 ·rfl
 ·rfl
 ·rfl
 intro E1 rec tmps after hE1 hrec hcf haft
 repeat' (first|refine Ctl.h ?_ |((with_reducible intro hif);first |(focus (cases hif;done)) |((try simp only[JH]at hif);try exact hy_)) |((with_reducible first|apply J22 ze_ za_|apply J23 fol ze_ za_|apply J24);(·rfl);(· exact k52_);(try kernel_rfl);try exact k12_)|fail)
 refine At.pick (L2:=[.gone,.gone,.ro (.arr P.length 5 (prS P)),.gone,.ro (.arr cs.length 1 (i64S cs)),.gone,.gone,.own 45 (.agg [.nat .i64 0,.nat .i64 0,.sl 0 0 [] 0 0 0 (some 0),.nat .i64 0,.sl 0 0 [] 0 0 0 (some 0)]) true,eB 9 12 P.length,mB s0 v Ins0 10 19,cB s0,.gone,prO P,.own 46 (.int .i64 0) true,.own 45 (.agg [.nat .i64 0,.int .i64 0,.sl 0 0 [] 0 0 0 (some 0),.nat .i64 0,.sl 0 0 [] 0 0 0 (some 0)]) true,pbB 8,fbB f,.raw (.deferred (some [])),.raw (.loop (rec .ready none)),sB s0]) (φ2:=[(0,.yl 18),(1,.ptr 15 []),(2,.ptr 16 []),(4,.nat .i64 0)]) [0,1,2,3,4,5,6,7,8,9,10,11,12,13,14,15,16,17,18,11] rfl rfl rfl ?_ rfl ?_ ?_ ?_ rfl ?_
 ·exact k43_
 ·exact k56_
 ·exact k45_
 ·exact k56_
 refine WF.loopAt (fun (z:RS)=>RInv P v f r z) (fun (z:RS)=>[(0,.yl 18),(1,.ptr 15 []),(2,.ptr 16 []),(4,.nat .i64 z.k)]) (fun (z:RS)=>[.gone,.gone,.ro (.arr P.length 5 (prS P)),.gone,.ro (.arr cs.length 1 (i64S cs)),.gone,.gone,.own 45 (.agg [.nat .i64 0,.nat .i64 0,.sl 0 0 [] 0 0 0 (some 0),.nat .i64 0,.sl 0 0 [] 0 0 0 (some 0)]) true,eB 9 12 P.length,mB z.s v z.x 10 19,cB z.s,.gone,prO P,.own 46 (.int .i64 0) true,.own 45 (.agg [.nat .i64 z.k,.int .i64 z.a,.sl 0 0 [] 0 0 0 (some 0),.nat .i64 0,.sl 0 0 [] 0 0 0 (some 0)]) true,pbB 8,fbB f,.raw (.deferred (some [])),.raw (.loop (rec .ready none)),sB z.s]) (fun (z:RS)=>f.toNat - z.k) ⟨0,s0,Ins0,[],0⟩ ⟨Nat.zero_le _,hG,rfl,hr⟩ ?_ ?_ rfl ?_ ?_ rfl ?_
 ·exact k28_
 ·exact k7_
 ·exact k56_
 ·exact k56_
 rintro⟨k,⟨at1,en,rg,ce,dr,se⟩,x,tr,a⟩ ⟨hk,hg,hl,hr1⟩
 dsimp only at hk hg hl hr1 ⊢
 cases en
 ·by_cases hkf:k < f.toNat
  ·have hkf2:(k:Int) < f:=by omega
   by_cases hst:stepE P v ⟨at1,false,rg,ce,dr,se⟩=0
   ·repeat' (first|refine Ctl.h ?_ |((with_reducible intro hif);first |(focus (cases hif;done)) |((try simp only[JH]at hif);try exact hy_)) |((with_reducible first|apply J22 ze_ za_|apply J23 fol ze_ za_|apply J24);(·rfl);(· exact k53_);(try kernel_rfl);try exact k12_)|fail)
    with_reducible apply WF.split 3 5
    ·rfl
    with_reducible apply At.run ze_ za_
    ·rfl
    ·rfl
    ·rfl
    ·exact k46_
    ·exact k47_
    with_reducible apply At.yield (gr:=_)
    ·rfl
    ·rfl
    ·rfl
    ·rfl
    ·rfl
    ·rfl
    ·exact k46_
    ·exact k48_
    ·exact k46_
    ·exact k47_
    ·exact k46_
    ·exact k47_
    ·exact k48_
    ·exact hrec
    ·exact hcf
    ·rfl
    ·rfl
    ·rfl
    intro lb E2 next hE2 hnext
    repeat' (first|refine Ctl.h ?_ |((with_reducible intro hif);first |(focus (cases hif;done)) |((try simp only[JH]at hif);try exact hy_)) |((with_reducible first|apply J22 ze_ za_|apply J23 fol ze_ za_|apply J24);(·rfl);(· exact k54_);(try kernel_rfl);try exact k12_)|fail)
    with_reducible apply At.begins hrec
    ·rfl
    with_reducible refine At.code ?_
    repeat' (first|refine Ctl.h ?_ |((with_reducible intro hif);first |(focus (cases hif;done)) |((try simp only[JH]at hif);try exact hy_)) |((with_reducible first|apply J22 ze_ za_|apply J23 fol ze_ za_|apply J24);(·rfl);(· exact k54_);(try kernel_rfl);try exact k12_)|fail)
    with_reducible apply At.roundNormal
    ·exact k48_
    apply hnext
    with_reducible apply At.runEnd ze_ za_
    ·rfl
    ·rfl
    ·rfl
    ·exact k46_
    ·exact k47_
    repeat' (first|refine Ctl.h ?_ |((with_reducible intro hif);first |(focus (cases hif;done)) |((try simp only[JH]at hif);try exact hy_)) |((with_reducible first|apply J22 ze_ za_|apply J23 fol ze_ za_|apply J24);(·rfl);(· exact k54_);(try kernel_rfl);try exact k12_)|fail)
    refine At.nextPick [0,1,2,3,4,5,6,7,8,9,10,11,12,13,14,15,16,17,18,20] ⟨k+1,stepS P v ⟨at1,false,rg,ce,dr,se⟩,stepX P ⟨at1,false,rg,ce,dr,se⟩ x,tr++[at1],at1⟩ ?_ rfl rfl rfl ?_ rfl ?_ ?_ ?_ rfl
    ·exact k49_
    ·exact k24_
    ·exact k56_
    ·exact k45_
    ·exact k56_
   ·rw[runA_bad rfl (by omega) hst]at hr1
    subst hr1
    have hn190:=stepE_ne190 P v ⟨at1,false,rg,ce,dr,se⟩
    have hl2:(tr++[at1]).length=k+1:=by simp[hl]
    repeat' (first|refine Ctl.h ?_ |((with_reducible intro hif);first |(focus (cases hif;done)) |((try simp only[JH]at hif);try exact hy_)) |((with_reducible first|apply J22 ze_ za_|apply J23 fol ze_ za_|apply J24);(·rfl);(· exact k53_);(try kernel_rfl);try exact k12_)|fail)
    with_reducible apply WF.split 3 5
    ·rfl
    with_reducible apply At.run ze_ za_
    ·rfl
    ·rfl
    ·rfl
    ·exact k46_
    ·exact k47_
    with_reducible apply At.yield (gr:=_)
    ·rfl
    ·rfl
    ·rfl
    ·rfl
    ·rfl
    ·rfl
    ·exact k46_
    ·exact k48_
    ·exact k46_
    ·exact k47_
    ·exact k46_
    ·exact k47_
    ·exact k48_
    ·exact hrec
    ·exact hcf
    ·rfl
    ·rfl
    ·rfl
    intro lb E2 next hE2 hnext
    repeat' (first|refine Ctl.h ?_ |((with_reducible intro hif);first |(focus (cases hif;done)) |((try simp only[JH]at hif);try exact hy_)) |((with_reducible first|apply J22 ze_ za_|apply J23 fol ze_ za_|apply J24);(·rfl);(· exact k54_);(try kernel_rfl);try exact k12_)|fail)
    with_reducible apply At.begins hrec
    ·rfl
    with_reducible refine At.code ?_
    repeat' (first|refine Ctl.h ?_ |((with_reducible intro hif);first |(focus (cases hif;done)) |((try simp only[JH]at hif);try exact hy_)) |((with_reducible first|apply J22 ze_ za_|apply J23 fol ze_ za_|apply J24);(·rfl);(· (simp only[push_cast,↓JP,Nat.reduceAdd,Nat.reduceEqDiff,Nat.reduceLT,Nat.reduceMul,Nat.reduceLeDiff,reduceCtorEq,reduceIte,↓JK,cRun,JM,engP,prP,macP,ym_,memN,eB,prO,pbB,fbB,JE,eEnded,eAt,eStep,xp_,inR,inN,hst,hn190];rfl));(try kernel_rfl);try exact k12_)|fail)
    with_reducible apply At.roundExit
    ·exact k48_
    apply hnext
    with_reducible apply At.runEnd ze_ za_
    ·rfl
    ·rfl
    ·rfl
    ·exact k46_
    ·exact k47_
    repeat' (first|refine Ctl.h ?_ |((with_reducible intro hif);first |(focus (cases hif;done)) |((try simp only[JH]at hif);try exact hy_)) |((with_reducible first|apply J22 ze_ za_|apply J23 fol ze_ za_|apply J24);(·rfl);(· exact k54_);(try kernel_rfl);try exact k12_)|fail)
    with_reducible apply At.itRet .done
    ·rfl
    ·rfl
    ·intro h;cases h
    apply haft
    intro w1 M1 D1 hA
    dsimp only
    repeat' (first|refine Ctl.h ?_ |((with_reducible intro hif);first |(focus (cases hif;done)) |((try simp only[JH]at hif);try exact hy_)) |((with_reducible first|apply J22 ze_ za_|apply J23 fol ze_ za_|apply J24);(·rfl);(· exact k54_);(try kernel_rfl);try exact k12_)|fail)
    apply At.endsRet za_ (fn:=Try.f29) (rs:=[.cell 12 45,.tmp 13]) hA hro (lb_ rfl) rfl
    ·exact k5_
    ·exact k6_
    ·exact k7_
    ·rfl
    ·exact k56_
    ·exact k9_
    ·exact fun β=>by rw[hl2];rfl
    ·exact k56_
  ·have e0:f.toNat - k=0:=by omega
   have hkf2:¬(k:Int) < f:=by omega
   rw[e0,runA_zero rfl]at hr1
   subst hr1
   repeat' (first|refine Ctl.h ?_ |((with_reducible intro hif);first |(focus (cases hif;done)) |((try simp only[JH]at hif);try exact hy_)) |((with_reducible first|apply J22 ze_ za_|apply J23 fol ze_ za_|apply J24);(·rfl);(· (simp only[push_cast,↓JP,Nat.reduceAdd,Nat.reduceEqDiff,Nat.reduceLT,Nat.reduceMul,Nat.reduceLeDiff,reduceCtorEq,reduceIte,↓JK,cRun,JM,engP,prP,macP,ym_,memN,eB,prO,pbB,fbB,JE,eEnded,eAt,eStep,xp_,inR,inN,hkf2];rfl));(try kernel_rfl);try exact k12_)|fail)
   with_reducible apply WF.split 3 5
   ·rfl
   with_reducible apply At.run ze_ za_
   ·rfl
   ·rfl
   ·rfl
   ·exact k57_
   ·exact k47_
   with_reducible apply At.yield (gr:=_)
   ·rfl
   ·rfl
   ·rfl
   ·rfl
   ·rfl
   ·rfl
   ·exact k57_
   ·exact k58_
   ·exact k57_
   ·exact k47_
   ·exact k57_
   ·exact k47_
   ·exact k58_
   ·exact hrec
   ·exact hcf
   ·rfl
   ·rfl
   ·rfl
   intro lb E2 next hE2 hnext
   repeat' (first|refine Ctl.h ?_ |((with_reducible intro hif);first |(focus (cases hif;done)) |((try simp only[JH]at hif);try exact hy_)) |((with_reducible first|apply J22 ze_ za_|apply J23 fol ze_ za_|apply J24);(·rfl);(· exact k60_);(try kernel_rfl);try exact k12_)|fail)
   with_reducible apply At.begins hrec
   ·rfl
   with_reducible refine At.code ?_
   repeat' (first|refine Ctl.h ?_ |((with_reducible intro hif);first |(focus (cases hif;done)) |((try simp only[JH]at hif);try exact hy_)) |((with_reducible first|apply J22 ze_ za_|apply J23 fol ze_ za_|apply J24);(·rfl);(· exact k60_);(try kernel_rfl);try exact k12_)|fail)
   with_reducible apply At.roundExit
   ·exact k58_
   apply hnext
   with_reducible apply At.runEnd ze_ za_
   ·rfl
   ·rfl
   ·rfl
   ·exact k57_
   ·exact k47_
   repeat' (first|refine Ctl.h ?_ |((with_reducible intro hif);first |(focus (cases hif;done)) |((try simp only[JH]at hif);try exact hy_)) |((with_reducible first|apply J22 ze_ za_|apply J23 fol ze_ za_|apply J24);(·rfl);(· exact k60_);(try kernel_rfl);try exact k12_)|fail)
   with_reducible apply At.itRet .done
   ·rfl
   ·rfl
   ·intro h;cases h
   apply haft
   intro w1 M1 D1 hA
   dsimp only
   repeat' (first|refine Ctl.h ?_ |((with_reducible intro hif);first |(focus (cases hif;done)) |((try simp only[JH]at hif);try exact hy_)) |((with_reducible first|apply J22 ze_ za_|apply J23 fol ze_ za_|apply J24);(·rfl);(· exact k60_);(try kernel_rfl);try exact k12_)|fail)
   apply At.endsRet za_ (fn:=Try.f29) (rs:=[.cell 12 45,.tmp 13]) hA hro (lb_ rfl) rfl
   ·exact k5_
   ·exact k6_
   ·exact k7_
   ·rfl
   ·exact k56_
   ·exact k9_
   ·exact fun β=>by rw[hl];rfl
   ·exact k56_
 ·rw[runA_end rfl]at hr1
  rw[←hr1]at hb
  exact absurd rfl hb
def cRej:FuncId→Option yr_:=xb_ [(51,sRoB)]
theorem cRej_ok:∀f S,cRej f=some S→zh_ Try.prog f S:=zn_ ⟨sRoB_ok,trivial⟩
theorem Run_rej (P:List Ins)(v:Evi)(t s q o y d f:Int)(cs:List Int)(p1 p2:Nat)(hok:∀x∈P,x.ok)(hn:P.length≤1000000)(hc:cs.length≤1000000)(hE:ropE P v (ya_ y t s cs d) f≠0):yc_ Try.prog 29 [.sl 1 2 [] 5 0 P.length (some p1),.agg [.int .u64 v.seed,.int .i64 v.process,.int .i64 v.ports,.int .i64 v.look,.int .i64 v.now],.agg [.agg [.int .i64 t,.int .i64 s,.int .i64 q],.int .i64 o,.int .i64 y],.sl 3 4 [] 1 0 cs.length (some p2),.int .i64 d,.int .i64 f]
  [.gone,.gone,.ro (.arr P.length 5 (prS P)),.gone,.ro (.arr cs.length 1 (i64S cs))]
  (.tup [.agg [.nat .i64 0,.int .i64 0,.sl 0 0 [] 0 0 0 (some 0),.nat .i64 0,.sl 0 0 [] 0 0 0 (some 0)],.int .i64 (ropE P v (ya_ y t s cs d) f)]) [.gone]:=by
 obtain⟨s0,hs0⟩:∃s0,ya_ y t s cs d=s0:=⟨_,rfl⟩
 rw[hs0]at hE ⊢
 refine zm_ (fn:=Try.f29) 5 66 0 rfl rfl rfl rfl rfl u8_ rfl fun w0 M E hro=>?_
 repeat' (first|refine Ctl.h ?_ |((with_reducible intro hif);first |(focus (cases hif;done)) |((try simp only[JH]at hif);try exact hy_)) |((with_reducible first|apply J22 cRej_ok za_|apply J23 fol cRej_ok za_|apply J24);(·rfl);(· exact k62_);(try kernel_rfl);try exact k61_)|fail)
 apply At.endsRet za_ (fn:=Try.f29) (rs:=[.cell 12 45,.tmp 13]) Anc.refl hro (lb_ rfl) rfl
 ·exact k5_
 ·exact k6_
 ·exact k7_
 ·rfl
 ·exact k56_
 ·exact k9_
 ·exact fun β=>rfl
 ·exact k56_
theorem runO_good {P:List Ins}{v:Evi}{s:Sta}{f:Int}(h:(xd_ P v s f).bad=0):ropE P v s f=0:=by
 by_cases q:ropE P v s f=0
 ·exact q
 ·unfold xd_ at h
  rw[if_neg q]at h
  exact absurd h q
theorem pg_of {P:List Ins}{v:Evi}{s:Sta}{f:Int}(hok:∀x∈P,x.ok)(h:ropE P v s f=0):PG P∧VOk v:=
 have q:=openE_zero (ropE_zero h).2
 ⟨⟨hok,q.1⟩,VOk.of q.2.1⟩
theorem RunB_lit (P:List Ins)(v:Evi)(t s q o y d f:Int)(cs:List Int)(p1 p2:Nat)(hok:∀x∈P,x.ok)(hn:P.length≤1000000)(hc:cs.length≤1000000)(hb:(xd_ P v (ya_ y t s cs d) f).bad≠0):yc_ Try.prog 29 [.sl 1 2 [] 5 0 P.length (some p1),.agg [.int .u64 v.seed,.int .i64 v.process,.int .i64 v.ports,.int .i64 v.look,.int .i64 v.now],.agg [.agg [.int .i64 t,.int .i64 s,.int .i64 q],.int .i64 o,.int .i64 y],.sl 3 4 [] 1 0 cs.length (some p2),.int .i64 d,.int .i64 f]
  [.gone,.gone,.ro (.arr P.length 5 (prS P)),.gone,.ro (.arr cs.length 1 (i64S cs))]
  (.tup [.agg [.nat .i64 (xd_ P v (ya_ y t s cs d) f).tr.length,.int .i64 (xd_ P v (ya_ y t s cs d) f).at_,.sl 0 0 [] 0 0 0 (some 0),.nat .i64 0,.sl 0 0 [] 0 0 0 (some 0)],.int .i64 (xd_ P v (ya_ y t s cs d) f).bad]) [.gone]:=by
 by_cases hE:ropE P v (ya_ y t s cs d) f=0
 ·have e:xd_ P v (ya_ y t s cs d) f=runA P v f.toNat (ya_ y t s cs d) Ins0 [] 0:=by unfold xd_;rw[if_pos hE]
  obtain⟨hP,V⟩:=pg_of hok hE
  rw[e]at hb ⊢
  exact Run_bad P v t s q o y d f cs p1 p2 hP V hc hE _ rfl hb
 ·have e:xd_ P v (ya_ y t s cs d) f=⟨[],0,ropE P v (ya_ y t s cs d) f,zeroSt,Ins0⟩:=by unfold xd_;rw[if_neg hE]
  rw[e]
  exact Run_rej P v t s q o y d f cs p1 p2 hok hn hc hE
theorem RunG_lit (P:List Ins)(v:Evi)(t s q o y d f:Int)(cs:List Int)(p1 p2:Nat)(hok:∀x∈P,x.ok)(hc:cs.length≤1000000)(hb:(xd_ P v (ya_ y t s cs d) f).bad=0):yc_ Try.prog 29 [.sl 1 2 [] 5 0 P.length (some p1),.agg [.int .u64 v.seed,.int .i64 v.process,.int .i64 v.ports,.int .i64 v.look,.int .i64 v.now],.agg [.agg [.int .i64 t,.int .i64 s,.int .i64 q],.int .i64 o,.int .i64 y],.sl 3 4 [] 1 0 cs.length (some p2),.int .i64 d,.int .i64 f]
  [.gone,.gone,.ro (.arr P.length 5 (prS P)),.gone,.ro (.arr cs.length 1 (i64S cs))]
  (.tup [.agg [.nat .i64 (xd_ P v (ya_ y t s cs d) f).tr.length,.int .i64 (xd_ P v (ya_ y t s cs d) f).at_,.sl 5 5 [] 1 0 (xd_ P v (ya_ y t s cs d) f).s.cells.length none,.int .i64 (xd_ P v (ya_ y t s cs d) f).s.draws,.sl 6 6 [] 3 0 (xd_ P v (ya_ y t s cs d) f).s.sends.length none],.int .i64 0]) [.gone,.gone,.gone,.gone,.gone,cB (xd_ P v (ya_ y t s cs d) f).s,sB (xd_ P v (ya_ y t s cs d) f).s]:=by
 have hE:=runO_good hb
 have e:xd_ P v (ya_ y t s cs d) f=runA P v f.toNat (ya_ y t s cs d) Ins0 [] 0:=by unfold xd_;rw[if_pos hE]
 obtain⟨hP,V⟩:=pg_of hok hE
 rw[e]at hb ⊢
 exact Run_good P v t s q o y d f cs p1 p2 hP V hc hE _ rfl hb
def sRunB:yr_:=fun args h m=>match args with
 | [v1,.agg [v2,v3,v4,v5,v6],.agg [.agg [v7,v8,v9],v10,v11],v12,v13,v14]=>match srcV h 5 (.tup []) v1,srcV h 1 (.tup []) v12 with
  | some (c1,n1,f1,r1),some (c12,n12,f12,r12)=>bif isI .u64 v2 && isI .i64 v3 && isI .i64 v4 && isI .i64 v5 && isI .i64 v6 && isI .i64 v7 && isI .i64 v8 && isI .i64 v9 && isI .i64 v10 && isI .i64 v11 && isI .i64 v13 && isI .i64 v14 then some (c1∧c12∧(∀q,q < n1→isIns (f1 q)=true)∧(∀q,q < n12→isI .i64 (f12 q)=true)∧((∀x∈(ls zg_ n1 f1),x.ok))∧(n1≤1000000)∧(n12≤1000000)∧((xd_ (ls zg_ n1 f1) ⟨(iOf v2),(iOf v3),(iOf v4),(iOf v5),(iOf v6)⟩ (ya_ (iOf v11) (iOf v7) (iOf v8) (ls iOf n12 f12) (iOf v13)) (iOf v14)).bad≠0),.tup [.agg [.nat .i64 (xd_ (ls zg_ n1 f1) ⟨(iOf v2),(iOf v3),(iOf v4),(iOf v5),(iOf v6)⟩ (ya_ (iOf v11) (iOf v7) (iOf v8) (ls iOf n12 f12) (iOf v13)) (iOf v14)).tr.length,.int .i64 (xd_ (ls zg_ n1 f1) ⟨(iOf v2),(iOf v3),(iOf v4),(iOf v5),(iOf v6)⟩ (ya_ (iOf v11) (iOf v7) (iOf v8) (ls iOf n12 f12) (iOf v13)) (iOf v14)).at_,.sl 0 0 [] 0 0 0 (some 0),.nat .i64 0,.sl 0 0 [] 0 0 0 (some 0)],.int .i64 (xd_ (ls zg_ n1 f1) ⟨(iOf v2),(iOf v3),(iOf v4),(iOf v5),(iOf v6)⟩ (ya_ (iOf v11) (iOf v7) (iOf v8) (ls iOf n12 f12) (iOf v13)) (iOf v14)).bad],r1++r12,[])else none
  | _,_=>none
 | _=>none
theorem sRunB_ok:zh_ Try.prog 29 sRunB:=by
 refine⟨zf_ (by kernel_rfl),fun args h m c v rd wr hs hm hc w0 M β h' w R hrd hwr hst=>?_⟩
 unfold sRunB at hs
 split at hs
 ·rename_i v1 v2 v3 v4 v5 v6 v7 v8 v9 v10 v11 v12 v13 v14
  split at hs
  ·rename_i c1 n1 f1 r1 c12 n12 f12 r12 a1 a12
   obtain⟨hb,hs⟩:=zj_ hs
   simp only[Option.some.injEq,Prod.mk.injEq]at hs
   obtain⟨rfl,rfl,rfl,rfl⟩:=hs
   simp only[Bool.and_eq_true]at hb
   obtain⟨⟨⟨⟨⟨⟨⟨⟨⟨⟨⟨b2,b3⟩,b4⟩,b5⟩,b6⟩,b7⟩,b8⟩,b9⟩,b10⟩,b11⟩,b13⟩,b14⟩:=hb
   obtain⟨k1,k12,g1,g12,y1,y2,y3,y4⟩:=hc
   obtain⟨A1,p1,d1,e1,t1⟩:=zk_ R a1 k1 (fun i hi=>hrd i (List.mem_append_left _ hi)) (by omega)
   obtain⟨A12,p12,d12,e12,t12⟩:=zk_ R a12 k12 (fun i hi=>hrd i (List.mem_append_right _ hi)) (by omega)
   refine y9_ (views:=[⟨5,(ls zg_ n1 f1).length,prS (ls zg_ n1 f1),A1,p1⟩,⟨1,(ls iOf n12 f12).length,i64S (ls iOf n12 f12),A12,p12⟩]) (RunB_lit (ls zg_ n1 f1) ⟨(iOf v2),(iOf v3),(iOf v4),(iOf v5),(iOf v6)⟩ (iOf v7) (iOf v8) (iOf v9) (iOf v10) (iOf v11) (iOf v13) (iOf v14) (ls iOf n12 f12) p1 p12 y1 (by rw[zb_];exact y2) (by rw[zb_];exact y3) y4) ?_ R hm hwr ?_ ?_ ?_
   ·exact d21_
   ·exact d22_
   ·exact k56_
   ·exact k56_
  ·cases hs
 ·cases hs
def sRunG:yr_:=fun args h m=>match args with
 | [v1,.agg [v2,v3,v4,v5,v6],.agg [.agg [v7,v8,v9],v10,v11],v12,v13,v14]=>match srcV h 5 (.tup []) v1,srcV h 1 (.tup []) v12 with
  | some (c1,n1,f1,r1),some (c12,n12,f12,r12)=>bif isI .u64 v2 && isI .i64 v3 && isI .i64 v4 && isI .i64 v5 && isI .i64 v6 && isI .i64 v7 && isI .i64 v8 && isI .i64 v9 && isI .i64 v10 && isI .i64 v11 && isI .i64 v13 && isI .i64 v14 then some (c1∧c12∧(∀q,q < n1→isIns (f1 q)=true)∧(∀q,q < n12→isI .i64 (f12 q)=true)∧((∀x∈(ls zg_ n1 f1),x.ok))∧(n1≤1000000)∧(n12≤1000000)∧((xd_ (ls zg_ n1 f1) ⟨(iOf v2),(iOf v3),(iOf v4),(iOf v5),(iOf v6)⟩ (ya_ (iOf v11) (iOf v7) (iOf v8) (ls iOf n12 f12) (iOf v13)) (iOf v14)).bad=0),.tup [.agg [.nat .i64 (xd_ (ls zg_ n1 f1) ⟨(iOf v2),(iOf v3),(iOf v4),(iOf v5),(iOf v6)⟩ (ya_ (iOf v11) (iOf v7) (iOf v8) (ls iOf n12 f12) (iOf v13)) (iOf v14)).tr.length,.int .i64 (xd_ (ls zg_ n1 f1) ⟨(iOf v2),(iOf v3),(iOf v4),(iOf v5),(iOf v6)⟩ (ya_ (iOf v11) (iOf v7) (iOf v8) (ls iOf n12 f12) (iOf v13)) (iOf v14)).at_,.sl m m [] 1 0 (xd_ (ls zg_ n1 f1) ⟨(iOf v2),(iOf v3),(iOf v4),(iOf v5),(iOf v6)⟩ (ya_ (iOf v11) (iOf v7) (iOf v8) (ls iOf n12 f12) (iOf v13)) (iOf v14)).s.cells.length none,.int .i64 (xd_ (ls zg_ n1 f1) ⟨(iOf v2),(iOf v3),(iOf v4),(iOf v5),(iOf v6)⟩ (ya_ (iOf v11) (iOf v7) (iOf v8) (ls iOf n12 f12) (iOf v13)) (iOf v14)).s.draws,.sl (m+1) (m+1) [] 3 0 (xd_ (ls zg_ n1 f1) ⟨(iOf v2),(iOf v3),(iOf v4),(iOf v5),(iOf v6)⟩ (ya_ (iOf v11) (iOf v7) (iOf v8) (ls iOf n12 f12) (iOf v13)) (iOf v14)).s.sends.length none],.int .i64 0],r1++r12,[(m,cB (xd_ (ls zg_ n1 f1) ⟨(iOf v2),(iOf v3),(iOf v4),(iOf v5),(iOf v6)⟩ (ya_ (iOf v11) (iOf v7) (iOf v8) (ls iOf n12 f12) (iOf v13)) (iOf v14)).s),(m+1,sB (xd_ (ls zg_ n1 f1) ⟨(iOf v2),(iOf v3),(iOf v4),(iOf v5),(iOf v6)⟩ (ya_ (iOf v11) (iOf v7) (iOf v8) (ls iOf n12 f12) (iOf v13)) (iOf v14)).s)])else none
  | _,_=>none
 | _=>none
theorem sRunG_ok:zh_ Try.prog 29 sRunG:=by
 refine⟨zf_ (by kernel_rfl),fun args h m c v rd wr hs hm hc w0 M β h' w R hrd hwr hst=>?_⟩
 unfold sRunG at hs
 split at hs
 ·rename_i v1 v2 v3 v4 v5 v6 v7 v8 v9 v10 v11 v12 v13 v14
  split at hs
  ·rename_i c1 n1 f1 r1 c12 n12 f12 r12 a1 a12
   obtain⟨hb,hs⟩:=zj_ hs
   simp only[Option.some.injEq,Prod.mk.injEq]at hs
   obtain⟨rfl,rfl,rfl,rfl⟩:=hs
   simp only[Bool.and_eq_true]at hb
   obtain⟨⟨⟨⟨⟨⟨⟨⟨⟨⟨⟨b2,b3⟩,b4⟩,b5⟩,b6⟩,b7⟩,b8⟩,b9⟩,b10⟩,b11⟩,b13⟩,b14⟩:=hb
   obtain⟨k1,k12,g1,g12,y1,y2,y3,y4⟩:=hc
   obtain⟨A1,p1,d1,e1,t1⟩:=zk_ R a1 k1 (fun i hi=>hrd i (List.mem_append_left _ hi)) (by omega)
   obtain⟨A12,p12,d12,e12,t12⟩:=zk_ R a12 k12 (fun i hi=>hrd i (List.mem_append_right _ hi)) (by omega)
   refine y9_ (views:=[⟨5,(ls zg_ n1 f1).length,prS (ls zg_ n1 f1),A1,p1⟩,⟨1,(ls iOf n12 f12).length,i64S (ls iOf n12 f12),A12,p12⟩]) (RunG_lit (ls zg_ n1 f1) ⟨(iOf v2),(iOf v3),(iOf v4),(iOf v5),(iOf v6)⟩ (iOf v7) (iOf v8) (iOf v9) (iOf v10) (iOf v11) (iOf v13) (iOf v14) (ls iOf n12 f12) p1 p12 y1 (by rw[zb_];exact y3) y4) ?_ R hm hwr ?_ ?_ ?_
   ·exact d21_
   ·exact d22_
   ·exact k56_
   ·exact k56_
  ·cases hs
 ·cases hs
def rvS (e a b c u:Nat)(w:Bool):SV:=.agg [.ptr e [],.fn 44 [.ptr a [],.ptr b [],.ptr c []],.nat .i64 u,.bool w]
def rB (e a b c u:Nat)(w:Bool):HB:=.own 125 (rvS e a b c u w) true
theorem rnone_lit (u:Nat)(w:Bool):yc_ Try.prog 46 [.ptr 1 []] [.gone,rB 2 3 4 5 u w,.gone,.gone,.gone,.gone] (.bool false) [.gone,rB 2 3 4 5 u w,.gone,.gone,.gone,.gone]:=by
 refine zm_ (fn:=Try.f46) 6 12 0 rfl rfl rfl rfl rfl (by simp only[zd_,Stable,hp,i64S,prS,insS,zt_,sndS,stS,evS,macS,mB,cB,sB,eB,prO,prR,pbB,fbB,rB,rvS,HB.stable];simp[HB.born,rB,rvS]) rfl fun w0 M E hro=>?_
 repeat' (first|refine Ctl.h ?_ |((with_reducible intro hif);first |(focus (cases hif;done)) |((try simp only[JH]at hif);try exact hy_)) |((with_reducible first|apply J22 c1_ok za_|apply J23 fol c1_ok za_|apply J24);(·rfl);(· (simp only[push_cast,↓JP,Nat.reduceAdd,Nat.reduceEqDiff,Nat.reduceLT,Nat.reduceMul,Nat.reduceLeDiff,reduceCtorEq,reduceIte,↓JK,rB,rvS,inR,inN];rfl));(try kernel_rfl);try exact k12_)|fail)
 apply At.endsPick [0,1,2,3,4,5] za_ (fn:=Try.f46) (rs:=[.tmp 2]) Anc.refl hro (lb_ rfl) rfl
 ·exact k5_
 ·exact yq_
 ·rfl
 ·rfl
 ·rfl
 ·exact k24_
 ·rfl
 ·exact k59_
 ·exact k9_
 ·exact fun β=>rfl
 ·exact k59_
end Go.Proofs.Ytjliakjbdcplcaa.Vm
end
end

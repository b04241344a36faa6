import Derived.Test.YtjliakjbdcplcaaU1
import Derived.Test.YtjliakjbdcplcaaU18
set_option linter.unusedSimpArgs false
set_option linter.unusedVariables false
set_option maxRecDepth 100000
set_option maxHeartbeats 4000000
section
namespace Go.Proofs.Ytjliakjbdcplcaa.Vm
open Go.RowKit
attribute [local push_cast] eqB eqBL allB prS zt_ i64S xo_ y3_ y2_ y1_ y0_ yz_ xn_ yy_ yx_ yw_ zy_ zv_ zw_ zu_ y5_ y4_ iOf
def cRun:FuncId→Option yr_:=xb_ [(51,sRoG),(48,sSteps),(74,eEnded),(75,eAt),(76,eStep),(49,xp_)]
theorem ze_:∀f S,cRun f=some S→zh_ Try.prog f S:=zn_ ⟨sRoG_ok,sSteps_ok,eEnded_ok,eAt_ok,eStep_ok,eState_ok,trivial⟩
structure RS where
 k:Nat
 s:Sta
 x:Ins
 tr:List Int
 a:Int
structure RInv (P:List Ins) (v:Evi) (f:Int) (r:RR) (y:RS):Prop where
 k:y.k≤f.toNat
 g:SG P y.s
 l:y.tr.length=y.k
 r:runA P v (f.toNat - y.k) y.s y.x y.tr y.a=r
theorem less_res {t:Nat}{ex:Bool}{w:SV}{u d:SV}:Less (.own t (.agg [.nat .i64 0,.nat .i64 0,w,u,d]) ex) (.own t (.agg [.nat .i64 0,.int .i64 0,w,u,d]) ex):=
 .val (fun β=>rfl) (fun n k f e=>by cases e) (fun n k f e=>by cases e)
theorem Run_good (P:List Ins)(v:Evi)(t s q o y d f:Int)(cs:List Int)(p1 p2:Nat)(hP:PG P)(V:VOk v)(hc:cs.length≤1000000)(hE:ropE P v (ya_ y t s cs d) f=0)(r:RR)(hr:runA P v f.toNat (ya_ y t s cs d) Ins0 [] 0=r)(hb:r.bad=0):yc_ Try.prog 29 [.sl 1 2 [] 5 0 P.length (some p1),.agg [.int .u64 v.seed,.int .i64 v.process,.int .i64 v.ports,.int .i64 v.look,.int .i64 v.now],.agg [.agg [.int .i64 t,.int .i64 s,.int .i64 q],.int .i64 o,.int .i64 y],.sl 3 4 [] 1 0 cs.length (some p2),.int .i64 d,.int .i64 f]
  [.gone,.gone,.ro (.arr P.length 5 (prS P)),.gone,.ro (.arr cs.length 1 (i64S cs))]
  (.tup [.agg [.nat .i64 r.tr.length,.int .i64 r.at_,.sl 5 5 [] 1 0 r.s.cells.length none,.int .i64 r.s.draws,.sl 6 6 [] 3 0 r.s.sends.length none],.int .i64 0]) [.gone,.gone,.gone,.gone,.gone,cB r.s,sB r.s]:=by
 have hok:=hP.ok
 have hn:=hP.len
 have hn':P.length≤1000000:=by omega
 have hf:=(ropE_zero hE).1
 have hO:=openE_zero (ropE_zero hE).2
 have hG:SG P (ya_ y t s cs d):=SG.of hO.2.2 (by simp[ya_])
 obtain⟨s0,hs0⟩:∃s0,ya_ y t s cs d=s0:=⟨_,rfl⟩
 rw[hs0]at hE hr hG
 have hl0:∀ex,Less (.own 45 (.agg [.nat .i64 0,.nat .i64 0,.sl 0 0 [] 0 0 0 (some 0),.nat .i64 0,.sl 0 0 [] 0 0 0 (some 0)]) ex) (.own 45 (.agg [.nat .i64 0,.int .i64 0,.sl 0 0 [] 0 0 0 (some 0),.nat .i64 0,.sl 0 0 [] 0 0 0 (some 0)]) ex):=fun ex=>less_res
 have hl1:=hl0 true
 refine zm_ (fn:=Try.f29) 5 66 0 rfl rfl rfl rfl rfl u8_ rfl fun w0 M E hro=>?_
 repeat' (first|refine Ctl.h ?_ |((with_reducible intro hif);first |(focus (cases hif;done)) |((try simp only[JH]at hif);try exact hy_)) |((with_reducible first|apply J22 ze_ za_|apply J23 fol ze_ za_|apply J24);(·rfl);(· exact k51_);(try kernel_rfl);try exact k50_)|fail)
 with_reducible apply WF.range (fn':=Try.f73) 28
 ·exact k42_
 ·exact yq_
 ·rfl
 ·rfl
 ·rfl
 ·rfl
 ·rfl
 ·rfl
 ·rfl
 intro E1 rec tmps after hE1 hrec hcf haft
 repeat' (first|refine Ctl.h ?_ |((with_reducible intro hif);first |(focus (cases hif;done)) |((try simp only[JH]at hif);try exact hy_)) |((with_reducible first|apply J22 ze_ za_|apply J23 fol ze_ za_|apply J24);(·rfl);(· exact k52_);(try kernel_rfl);try exact k12_)|fail)
 refine At.pick (L2:=[.gone,.gone,.ro (.arr P.length 5 (prS P)),.gone,.ro (.arr cs.length 1 (i64S cs)),.gone,.gone,.own 45 (.agg [.nat .i64 0,.nat .i64 0,.sl 0 0 [] 0 0 0 (some 0),.nat .i64 0,.sl 0 0 [] 0 0 0 (some 0)]) true,eB 9 12 P.length,mB s0 v Ins0 10 19,cB s0,.gone,prO P,.own 46 (.int .i64 0) true,.own 45 (.agg [.nat .i64 0,.int .i64 0,.sl 0 0 [] 0 0 0 (some 0),.nat .i64 0,.sl 0 0 [] 0 0 0 (some 0)]) true,pbB 8,fbB f,.raw (.deferred (some [])),.raw (.loop (rec .ready none)),sB s0]) (φ2:=[(0,.yl 18),(1,.ptr 15 []),(2,.ptr 16 []),(4,.nat .i64 0)]) [0,1,2,3,4,5,6,7,8,9,10,11,12,13,14,15,16,17,18,11] rfl rfl rfl ?_ rfl ?_ ?_ ?_ rfl ?_
 ·exact k43_
 ·exact k44_
 ·exact k45_
 ·exact k44_
 refine WF.loopAt (fun (z:RS)=>RInv P v f r z) (fun (z:RS)=>[(0,.yl 18),(1,.ptr 15 []),(2,.ptr 16 []),(4,.nat .i64 z.k)]) (fun (z:RS)=>[.gone,.gone,.ro (.arr P.length 5 (prS P)),.gone,.ro (.arr cs.length 1 (i64S cs)),.gone,.gone,.own 45 (.agg [.nat .i64 0,.nat .i64 0,.sl 0 0 [] 0 0 0 (some 0),.nat .i64 0,.sl 0 0 [] 0 0 0 (some 0)]) true,eB 9 12 P.length,mB z.s v z.x 10 19,cB z.s,.gone,prO P,.own 46 (.int .i64 0) true,.own 45 (.agg [.nat .i64 z.k,.int .i64 z.a,.sl 0 0 [] 0 0 0 (some 0),.nat .i64 0,.sl 0 0 [] 0 0 0 (some 0)]) true,pbB 8,fbB f,.raw (.deferred (some [])),.raw (.loop (rec .ready none)),sB z.s]) (fun (z:RS)=>f.toNat - z.k) ⟨0,s0,Ins0,[],0⟩ ⟨Nat.zero_le _,hG,rfl,hr⟩ ?_ ?_ rfl ?_ ?_ rfl ?_
 ·exact k28_
 ·exact k7_
 ·exact k44_
 ·exact k44_
 rintro⟨k,⟨at1,en,rg,ce,dr,se⟩,x,tr,a⟩ ⟨hk,hg,hl,hr1⟩
 dsimp only at hk hg hl hr1 ⊢
 cases en
 ·have hkf:k < f.toNat:=by
   rcases Nat.lt_or_ge k f.toNat with h|h
   ·exact h
   ·exfalso
    have e0:f.toNat - k=0:=by omega
    rw[e0,runA_zero rfl]at hr1
    rw[←hr1]at hb
    cases hb
  have hst:stepE P v ⟨at1,false,rg,ce,dr,se⟩=0:=by
   by_cases h:stepE P v ⟨at1,false,rg,ce,dr,se⟩=0
   ·exact h
   ·rw[runA_bad rfl (by omega) h]at hr1
    rw[←hr1]at hb
    exact absurd hb h
  have hkf2:(k:Int) < f:=by omega
  repeat' (first|refine Ctl.h ?_ |((with_reducible intro hif);first |(focus (cases hif;done)) |((try simp only[JH]at hif);try exact hy_)) |((with_reducible first|apply J22 ze_ za_|apply J23 fol ze_ za_|apply J24);(·rfl);(· exact k53_);(try kernel_rfl);try exact k12_)|fail)
  with_reducible apply WF.split 3 5
  ·rfl
  with_reducible apply At.run ze_ za_
  ·rfl
  ·rfl
  ·rfl
  ·exact k46_
  ·exact k47_
  with_reducible apply At.yield (gr:=_)
  ·rfl
  ·rfl
  ·rfl
  ·rfl
  ·rfl
  ·rfl
  ·exact k46_
  ·exact k48_
  ·exact k46_
  ·exact k47_
  ·exact k46_
  ·exact k47_
  ·exact k48_
  ·exact hrec
  ·exact hcf
  ·rfl
  ·rfl
  ·rfl
  intro lb E2 next hE2 hnext
  repeat' (first|refine Ctl.h ?_ |((with_reducible intro hif);first |(focus (cases hif;done)) |((try simp only[JH]at hif);try exact hy_)) |((with_reducible first|apply J22 ze_ za_|apply J23 fol ze_ za_|apply J24);(·rfl);(· exact k54_);(try kernel_rfl);try exact k12_)|fail)
  with_reducible apply At.begins hrec
  ·rfl
  with_reducible refine At.code ?_
  repeat' (first|refine Ctl.h ?_ |((with_reducible intro hif);first |(focus (cases hif;done)) |((try simp only[JH]at hif);try exact hy_)) |((with_reducible first|apply J22 ze_ za_|apply J23 fol ze_ za_|apply J24);(·rfl);(· exact k54_);(try kernel_rfl);try exact k12_)|fail)
  with_reducible apply At.roundNormal
  ·exact k48_
  apply hnext
  with_reducible apply At.runEnd ze_ za_
  ·rfl
  ·rfl
  ·rfl
  ·exact k46_
  ·exact k47_
  repeat' (first|refine Ctl.h ?_ |((with_reducible intro hif);first |(focus (cases hif;done)) |((try simp only[JH]at hif);try exact hy_)) |((with_reducible first|apply J22 ze_ za_|apply J23 fol ze_ za_|apply J24);(·rfl);(· exact k54_);(try kernel_rfl);try exact k12_)|fail)
  refine At.nextPick [0,1,2,3,4,5,6,7,8,9,10,11,12,13,14,15,16,17,18,20] ⟨k+1,stepS P v ⟨at1,false,rg,ce,dr,se⟩,stepX P ⟨at1,false,rg,ce,dr,se⟩ x,tr++[at1],at1⟩ ?_ rfl rfl rfl ?_ rfl ?_ ?_ ?_ rfl
  ·exact k49_
  ·exact k24_
  ·exact k44_
  ·exact k45_
  ·exact k44_
 ·rw[runA_end rfl]at hr1
  subst hr1
  have hcl:=hg.c1
  have hsl:=hg.n1
  dsimp only at hcl hsl
  have hcl2:ce.length≤1000000:=by omega
  repeat' (first|refine Ctl.h ?_ |((with_reducible intro hif);first |(focus (cases hif;done)) |((try simp only[JH]at hif);try exact hy_)) |((with_reducible first|apply J22 ze_ za_|apply J23 fol ze_ za_|apply J24);(·rfl);(· exact k55_);(try kernel_rfl);try exact k12_)|fail)
  with_reducible apply At.itNormal .ready
  ·rfl
  ·rfl
  ·intro h;cases h
  apply haft
  intro w1 M1 D1 hA
  dsimp only
  repeat' (first|refine Ctl.h ?_ |((with_reducible intro hif);first |(focus (cases hif;done)) |((try simp only[JH]at hif);try exact hy_)) |((with_reducible first|apply J22 ze_ za_|apply J23 fol ze_ za_|apply J24);(·rfl);(· exact k55_);(try kernel_rfl);try exact k12_)|fail)
  apply At.endsPick [0,1,2,3,4,20,21] za_ (fn:=Try.f29) (rs:=[.cell 12 45,.tmp 13]) hA hro (lb_ rfl) rfl
  ·exact k5_
  ·exact yq_
  ·rfl
  ·rfl
  ·rfl
  ·exact k24_
  ·rfl
  ·exact k44_
  ·exact k9_
  ·exact fun β=>by rw[hl];rfl
  ·exact k44_
end Go.Proofs.Ytjliakjbdcplcaa.Vm
end

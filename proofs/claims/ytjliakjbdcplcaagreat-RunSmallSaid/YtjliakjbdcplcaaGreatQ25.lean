import Derived.Test.YtjliakjbdcplcaaGreatQ1
import Derived.Test.YtjliakjbdcplcaaGreatQ10
import Derived.Test.YtjliakjbdcplcaaGreatQ24
set_option linter.unusedSimpArgs false
set_option linter.unusedVariables false
set_option maxRecDepth 100000
set_option maxHeartbeats 4000000
section
open Go.Proofs.YtjliakjbdcplcaaGreat.Vm Go.RowKit
attribute [local push_cast] prS zo_ zp_ xt_ y8_ y7_ y6_ y5_ y4_ xs_ y3_ y2_ y1_ zn_ z2_ z4_ z1_ zu_ zt_ iOf
section
namespace Go.Proofs.YtjliakjbdcplcaaGreat.Vm
open Go.RowKit
def cRun:FuncId→Option yn_:=y9_ [(48,sRoG),(49,sSteps),(89,eEnded),(90,eAt),(91,eStep),(50,wb_)]
theorem zj_:∀f S,cRun f=some S→zi_ Tryz.prog f S:=zr_ ⟨sRoG_ok,sSteps_ok,eEnded_ok,eAt_ok,eStep_ok,eState_ok,trivial⟩
structure RS where
 k:Nat
 s:Sta
 x:Ins
 tr:List Int
 a:Int
structure RInv (P:List Ins) (v:Evi) (f:Int) (r:RR) (y:RS):Prop where
 k:y.k≤f.toNat
 g:SG P y.s
 l:y.tr.length=y.k
 r:xq_ P v (f.toNat - y.k) y.s y.x y.tr y.a=r
theorem less_res {t:Nat}{ex:Bool}{w:SV}{u d:SV}:Less (.own t (.agg [.nat .i64 0,.nat .i64 0,w,u,d]) ex) (.own t (.agg [.nat .i64 0,.int .i64 0,w,u,d]) ex):=
 .val (fun β=>rfl) (fun n k f e=>by cases e) (fun n k f e=>by cases e)
theorem Run_good (P:List Ins)(v:Evi)(t s q o y d f:Int)(cs:List Int)(p1 p2:Nat)(hP:PG P)(V:VOk v)(hc:cs.length≤1000000)(hE:ropE P v (yo_ y t s cs d) f=0)(r:RR)(hr:xq_ P v f.toNat (yo_ y t s cs d) Ins0 [] 0=r)(hb:r.bad=0):zs_ Tryz.prog 13 [.sl 1 2 [] 5 0 P.length (some p1),.agg [.int .u64 v.seed,.int .i64 v.process,.int .i64 v.ports,.int .i64 v.look,.int .i64 v.now],.agg [.agg [.int .i64 t,.int .i64 s,.int .i64 q],.int .i64 o,.int .i64 y],.sl 3 4 [] 1 0 cs.length (some p2),.int .i64 d,.int .i64 f]
  [.gone,.gone,.ro (.arr P.length 5 (prS P)),.gone,.ro (.arr cs.length 1 (zp_ cs))]
  (.tup [.agg [.nat .i64 r.tr.length,.int .i64 r.at_,.sl 5 5 [] 1 0 r.s.cells.length none,.int .i64 r.s.draws,.sl 6 6 [] 3 0 r.s.sends.length none],.int .i64 0]) [.gone,.gone,.gone,.gone,.gone,cB r.s,sB r.s]:=by
 have hok:=hP.ok
 have hn:=hP.len
 have hn':P.length≤1000000:=by omega
 have hf:=(ropE_zero hE).1
 have hO:=openE_zero (ropE_zero hE).2
 have hG:SG P (yo_ y t s cs d):=SG.of hO.2.2 (by simp[yo_])
 obtain⟨s0,hs0⟩:∃s0,yo_ y t s cs d=s0:=⟨_,rfl⟩
 rw[hs0]at hE hr hG
 have hl0:∀ex,Less (.own 42 (.agg [.nat .i64 0,.nat .i64 0,.sl 0 0 [] 0 0 0 (some 0),.nat .i64 0,.sl 0 0 [] 0 0 0 (some 0)]) ex) (.own 42 (.agg [.nat .i64 0,.int .i64 0,.sl 0 0 [] 0 0 0 (some 0),.nat .i64 0,.sl 0 0 [] 0 0 0 (some 0)]) ex):=fun ex=>less_res
 have hl1:=hl0 true
 refine zf_ (fn:=Tryz.f13) 5 66 0 rfl rfl rfl rfl rfl u20_ rfl fun w0 M E hro=>?_
 repeat' (first|refine Ctl.h ?_ |((with_reducible intro hif);first |(focus (cases hif;done)) |((try simp only[JH]at hif);try exact hy_)) |((with_reducible first|apply J22 zj_ za_|apply J23 fol zj_ za_|apply J24);(·rfl);(· exact k140_);(try kernel_rfl);try exact k139_)|fail)
 with_reducible apply WF.range (fn':=Tryz.f88) 28
 ·exact k129_
 ·exact xz_
 ·rfl
 ·rfl
 ·rfl
 ·rfl
 ·rfl
 ·rfl
 ·rfl
 intro E1 rec tmps after hE1 hrec hcf haft
 repeat' (first|refine Ctl.h ?_ |((with_reducible intro hif);first |(focus (cases hif;done)) |((try simp only[JH]at hif);try exact hy_)) |((with_reducible first|apply J22 zj_ za_|apply J23 fol zj_ za_|apply J24);(·rfl);(· exact k141_);(try kernel_rfl);try exact k15_)|fail)
 refine At.pick (L2:=[.gone,.gone,.ro (.arr P.length 5 (prS P)),.gone,.ro (.arr cs.length 1 (zp_ cs)),.gone,.gone,.own 42 (.agg [.nat .i64 0,.nat .i64 0,.sl 0 0 [] 0 0 0 (some 0),.nat .i64 0,.sl 0 0 [] 0 0 0 (some 0)]) true,eB 9 12 P.length,mB s0 v Ins0 10 19,cB s0,.gone,prO P,.own 43 (.int .i64 0) true,.own 42 (.agg [.nat .i64 0,.int .i64 0,.sl 0 0 [] 0 0 0 (some 0),.nat .i64 0,.sl 0 0 [] 0 0 0 (some 0)]) true,pbB 8,fbB f,.raw (.deferred (some [])),.raw (.loop (rec .ready none)),sB s0]) (φ2:=[(0,.yl 18),(1,.ptr 15 []),(2,.ptr 16 []),(4,.nat .i64 0)]) [0,1,2,3,4,5,6,7,8,9,10,11,12,13,14,15,16,17,18,11] rfl rfl rfl ?_ rfl ?_ ?_ ?_ rfl ?_
 ·exact k130_
 ·exact k131_
 ·exact k32_
 ·exact k131_
 refine WF.loopAt (fun (z:RS)=>RInv P v f r z) (fun (z:RS)=>[(0,.yl 18),(1,.ptr 15 []),(2,.ptr 16 []),(4,.nat .i64 z.k)]) (fun (z:RS)=>[.gone,.gone,.ro (.arr P.length 5 (prS P)),.gone,.ro (.arr cs.length 1 (zp_ cs)),.gone,.gone,.own 42 (.agg [.nat .i64 0,.nat .i64 0,.sl 0 0 [] 0 0 0 (some 0),.nat .i64 0,.sl 0 0 [] 0 0 0 (some 0)]) true,eB 9 12 P.length,mB z.s v z.x 10 19,cB z.s,.gone,prO P,.own 43 (.int .i64 0) true,.own 42 (.agg [.nat .i64 z.k,.int .i64 z.a,.sl 0 0 [] 0 0 0 (some 0),.nat .i64 0,.sl 0 0 [] 0 0 0 (some 0)]) true,pbB 8,fbB f,.raw (.deferred (some [])),.raw (.loop (rec .ready none)),sB z.s]) (fun (z:RS)=>f.toNat - z.k) ⟨0,s0,Ins0,[],0⟩ ⟨Nat.zero_le _,hG,rfl,hr⟩ ?_ ?_ rfl ?_ ?_ rfl ?_
 ·exact we_
 ·exact k7_
 ·exact k131_
 ·exact k131_
 rintro⟨k,⟨at1,en,rg,ce,dr,se⟩,x,tr,a⟩ ⟨hk,hg,hl,hr1⟩
 dsimp only at hk hg hl hr1 ⊢
 cases en
 ·have hkf:k < f.toNat:=by
   rcases Nat.lt_or_ge k f.toNat with h|h
   ·exact h
   ·exfalso
    have e0:f.toNat - k=0:=by omega
    rw[e0,x7_ rfl]at hr1
    rw[←hr1]at hb
    cases hb
  have hst:x3_ P v ⟨at1,false,rg,ce,dr,se⟩=0:=by
   by_cases h:x3_ P v ⟨at1,false,rg,ce,dr,se⟩=0
   ·exact h
   ·rw[runA_bad rfl (by omega) h]at hr1
    rw[←hr1]at hb
    exact absurd hb h
  have hkf2:(k:Int) < f:=by omega
  repeat' (first|refine Ctl.h ?_ |((with_reducible intro hif);first |(focus (cases hif;done)) |((try simp only[JH]at hif);try exact hy_)) |((with_reducible first|apply J22 zj_ za_|apply J23 fol zj_ za_|apply J24);(·rfl);(· exact k142_);(try kernel_rfl);try exact k15_)|fail)
  with_reducible apply WF.split 3 5
  ·rfl
  with_reducible apply At.run zj_ za_
  ·rfl
  ·rfl
  ·rfl
  ·exact k132_
  ·exact xd_
  with_reducible apply At.yield (gr:=_)
  ·rfl
  ·rfl
  ·rfl
  ·rfl
  ·rfl
  ·rfl
  ·exact k132_
  ·exact k134_
  ·exact k132_
  ·exact xd_
  ·exact k132_
  ·exact xd_
  ·exact k134_
  ·exact hrec
  ·exact hcf
  ·rfl
  ·rfl
  ·rfl
  intro lb E2 next hE2 hnext
  repeat' (first|refine Ctl.h ?_ |((with_reducible intro hif);first |(focus (cases hif;done)) |((try simp only[JH]at hif);try exact hy_)) |((with_reducible first|apply J22 zj_ za_|apply J23 fol zj_ za_|apply J24);(·rfl);(· exact k143_);(try kernel_rfl);try exact k15_)|fail)
  with_reducible apply At.begins hrec
  ·rfl
  with_reducible refine At.code ?_
  repeat' (first|refine Ctl.h ?_ |((with_reducible intro hif);first |(focus (cases hif;done)) |((try simp only[JH]at hif);try exact hy_)) |((with_reducible first|apply J22 zj_ za_|apply J23 fol zj_ za_|apply J24);(·rfl);(· exact k143_);(try kernel_rfl);try exact k15_)|fail)
  with_reducible apply At.roundNormal
  ·exact k134_
  apply hnext
  with_reducible apply At.runEnd zj_ za_
  ·rfl
  ·rfl
  ·rfl
  ·exact k132_
  ·exact xd_
  repeat' (first|refine Ctl.h ?_ |((with_reducible intro hif);first |(focus (cases hif;done)) |((try simp only[JH]at hif);try exact hy_)) |((with_reducible first|apply J22 zj_ za_|apply J23 fol zj_ za_|apply J24);(·rfl);(· exact k143_);(try kernel_rfl);try exact k15_)|fail)
  refine At.nextPick [0,1,2,3,4,5,6,7,8,9,10,11,12,13,14,15,16,17,18,20] ⟨k+1,xx_ P v ⟨at1,false,rg,ce,dr,se⟩,stepX P ⟨at1,false,rg,ce,dr,se⟩ x,tr++[at1],at1⟩ ?_ rfl rfl rfl ?_ rfl ?_ ?_ ?_ rfl
  ·exact k135_
  ·exact k40_
  ·exact k131_
  ·exact k32_
  ·exact k131_
 ·rw[x9_ rfl]at hr1
  subst hr1
  have hcl:=hg.c1
  have hsl:=hg.n1
  dsimp only at hcl hsl
  have hcl2:ce.length≤1000000:=by omega
  repeat' (first|refine Ctl.h ?_ |((with_reducible intro hif);first |(focus (cases hif;done)) |((try simp only[JH]at hif);try exact hy_)) |((with_reducible first|apply J22 zj_ za_|apply J23 fol zj_ za_|apply J24);(·rfl);(· exact k144_);(try kernel_rfl);try exact k15_)|fail)
  with_reducible apply At.itNormal .ready
  ·rfl
  ·rfl
  ·intro h;cases h
  apply haft
  intro w1 M1 D1 hA
  dsimp only
  repeat' (first|refine Ctl.h ?_ |((with_reducible intro hif);first |(focus (cases hif;done)) |((try simp only[JH]at hif);try exact hy_)) |((with_reducible first|apply J22 zj_ za_|apply J23 fol zj_ za_|apply J24);(·rfl);(· exact k144_);(try kernel_rfl);try exact k15_)|fail)
  apply At.endsPick [0,1,2,3,4,20,21] za_ (fn:=Tryz.f13) (rs:=[.cell 12 42,.tmp 13]) hA hro (lb_ rfl) rfl
  ·exact yl_
  ·exact xz_
  ·rfl
  ·rfl
  ·rfl
  ·exact k40_
  ·rfl
  ·exact k131_
  ·exact k9_
  ·exact fun β=>by rw[hl];rfl
  ·exact k131_
theorem Run_bad (P:List Ins)(v:Evi)(t s q o y d f:Int)(cs:List Int)(p1 p2:Nat)(hP:PG P)(V:VOk v)(hc:cs.length≤1000000)(hE:ropE P v (yo_ y t s cs d) f=0)(r:RR)(hr:xq_ P v f.toNat (yo_ y t s cs d) Ins0 [] 0=r)(hb:r.bad≠0):zs_ Tryz.prog 13 [.sl 1 2 [] 5 0 P.length (some p1),.agg [.int .u64 v.seed,.int .i64 v.process,.int .i64 v.ports,.int .i64 v.look,.int .i64 v.now],.agg [.agg [.int .i64 t,.int .i64 s,.int .i64 q],.int .i64 o,.int .i64 y],.sl 3 4 [] 1 0 cs.length (some p2),.int .i64 d,.int .i64 f]
  [.gone,.gone,.ro (.arr P.length 5 (prS P)),.gone,.ro (.arr cs.length 1 (zp_ cs))]
  (.tup [.agg [.nat .i64 r.tr.length,.int .i64 r.at_,.sl 0 0 [] 0 0 0 (some 0),.nat .i64 0,.sl 0 0 [] 0 0 0 (some 0)],.int .i64 r.bad]) [.gone]:=by
 have hok:=hP.ok
 have hn:=hP.len
 have hn':P.length≤1000000:=by omega
 have hf:=(ropE_zero hE).1
 have hO:=openE_zero (ropE_zero hE).2
 have hG:SG P (yo_ y t s cs d):=SG.of hO.2.2 (by simp[yo_])
 obtain⟨s0,hs0⟩:∃s0,yo_ y t s cs d=s0:=⟨_,rfl⟩
 rw[hs0]at hE hr hG
 have hl0:∀ex,Less (.own 42 (.agg [.nat .i64 0,.nat .i64 0,.sl 0 0 [] 0 0 0 (some 0),.nat .i64 0,.sl 0 0 [] 0 0 0 (some 0)]) ex) (.own 42 (.agg [.nat .i64 0,.int .i64 0,.sl 0 0 [] 0 0 0 (some 0),.nat .i64 0,.sl 0 0 [] 0 0 0 (some 0)]) ex):=fun ex=>less_res
 have hl1:=hl0 true
 refine zf_ (fn:=Tryz.f13) 5 66 0 rfl rfl rfl rfl rfl u20_ rfl fun w0 M E hro=>?_
 repeat' (first|refine Ctl.h ?_ |((with_reducible intro hif);first |(focus (cases hif;done)) |((try simp only[JH]at hif);try exact hy_)) |((with_reducible first|apply J22 zj_ za_|apply J23 fol zj_ za_|apply J24);(·rfl);(· exact k140_);(try kernel_rfl);try exact k139_)|fail)
 with_reducible apply WF.range (fn':=Tryz.f88) 28
 ·exact k129_
 ·exact xz_
 ·rfl
 ·rfl
 ·rfl
 ·rfl
 ·rfl
 ·rfl
 ·rfl
 intro E1 rec tmps after hE1 hrec hcf haft
 repeat' (first|refine Ctl.h ?_ |((with_reducible intro hif);first |(focus (cases hif;done)) |((try simp only[JH]at hif);try exact hy_)) |((with_reducible first|apply J22 zj_ za_|apply J23 fol zj_ za_|apply J24);(·rfl);(· exact k141_);(try kernel_rfl);try exact k15_)|fail)
 refine At.pick (L2:=[.gone,.gone,.ro (.arr P.length 5 (prS P)),.gone,.ro (.arr cs.length 1 (zp_ cs)),.gone,.gone,.own 42 (.agg [.nat .i64 0,.nat .i64 0,.sl 0 0 [] 0 0 0 (some 0),.nat .i64 0,.sl 0 0 [] 0 0 0 (some 0)]) true,eB 9 12 P.length,mB s0 v Ins0 10 19,cB s0,.gone,prO P,.own 43 (.int .i64 0) true,.own 42 (.agg [.nat .i64 0,.int .i64 0,.sl 0 0 [] 0 0 0 (some 0),.nat .i64 0,.sl 0 0 [] 0 0 0 (some 0)]) true,pbB 8,fbB f,.raw (.deferred (some [])),.raw (.loop (rec .ready none)),sB s0]) (φ2:=[(0,.yl 18),(1,.ptr 15 []),(2,.ptr 16 []),(4,.nat .i64 0)]) [0,1,2,3,4,5,6,7,8,9,10,11,12,13,14,15,16,17,18,11] rfl rfl rfl ?_ rfl ?_ ?_ ?_ rfl ?_
 ·exact k130_
 ·exact k136_
 ·exact k32_
 ·exact k136_
 refine WF.loopAt (fun (z:RS)=>RInv P v f r z) (fun (z:RS)=>[(0,.yl 18),(1,.ptr 15 []),(2,.ptr 16 []),(4,.nat .i64 z.k)]) (fun (z:RS)=>[.gone,.gone,.ro (.arr P.length 5 (prS P)),.gone,.ro (.arr cs.length 1 (zp_ cs)),.gone,.gone,.own 42 (.agg [.nat .i64 0,.nat .i64 0,.sl 0 0 [] 0 0 0 (some 0),.nat .i64 0,.sl 0 0 [] 0 0 0 (some 0)]) true,eB 9 12 P.length,mB z.s v z.x 10 19,cB z.s,.gone,prO P,.own 43 (.int .i64 0) true,.own 42 (.agg [.nat .i64 z.k,.int .i64 z.a,.sl 0 0 [] 0 0 0 (some 0),.nat .i64 0,.sl 0 0 [] 0 0 0 (some 0)]) true,pbB 8,fbB f,.raw (.deferred (some [])),.raw (.loop (rec .ready none)),sB z.s]) (fun (z:RS)=>f.toNat - z.k) ⟨0,s0,Ins0,[],0⟩ ⟨Nat.zero_le _,hG,rfl,hr⟩ ?_ ?_ rfl ?_ ?_ rfl ?_
 ·exact we_
 ·exact k7_
 ·exact k136_
 ·exact k136_
 rintro⟨k,⟨at1,en,rg,ce,dr,se⟩,x,tr,a⟩ ⟨hk,hg,hl,hr1⟩
 dsimp only at hk hg hl hr1 ⊢
 cases en
 ·by_cases hkf:k < f.toNat
  ·have hkf2:(k:Int) < f:=by omega
   by_cases hst:x3_ P v ⟨at1,false,rg,ce,dr,se⟩=0
   ·repeat' (first|refine Ctl.h ?_ |((with_reducible intro hif);first |(focus (cases hif;done)) |((try simp only[JH]at hif);try exact hy_)) |((with_reducible first|apply J22 zj_ za_|apply J23 fol zj_ za_|apply J24);(·rfl);(· exact k142_);(try kernel_rfl);try exact k15_)|fail)
    with_reducible apply WF.split 3 5
    ·rfl
    with_reducible apply At.run zj_ za_
    ·rfl
    ·rfl
    ·rfl
    ·exact k132_
    ·exact xd_
    with_reducible apply At.yield (gr:=_)
    ·rfl
    ·rfl
    ·rfl
    ·rfl
    ·rfl
    ·rfl
    ·exact k132_
    ·exact k134_
    ·exact k132_
    ·exact xd_
    ·exact k132_
    ·exact xd_
    ·exact k134_
    ·exact hrec
    ·exact hcf
    ·rfl
    ·rfl
    ·rfl
    intro lb E2 next hE2 hnext
    repeat' (first|refine Ctl.h ?_ |((with_reducible intro hif);first |(focus (cases hif;done)) |((try simp only[JH]at hif);try exact hy_)) |((with_reducible first|apply J22 zj_ za_|apply J23 fol zj_ za_|apply J24);(·rfl);(· exact k143_);(try kernel_rfl);try exact k15_)|fail)
    with_reducible apply At.begins hrec
    ·rfl
    with_reducible refine At.code ?_
    repeat' (first|refine Ctl.h ?_ |((with_reducible intro hif);first |(focus (cases hif;done)) |((try simp only[JH]at hif);try exact hy_)) |((with_reducible first|apply J22 zj_ za_|apply J23 fol zj_ za_|apply J24);(·rfl);(· exact k143_);(try kernel_rfl);try exact k15_)|fail)
    with_reducible apply At.roundNormal
    ·exact k134_
    apply hnext
    with_reducible apply At.runEnd zj_ za_
    ·rfl
    ·rfl
    ·rfl
    ·exact k132_
    ·exact xd_
    repeat' (first|refine Ctl.h ?_ |((with_reducible intro hif);first |(focus (cases hif;done)) |((try simp only[JH]at hif);try exact hy_)) |((with_reducible first|apply J22 zj_ za_|apply J23 fol zj_ za_|apply J24);(·rfl);(· exact k143_);(try kernel_rfl);try exact k15_)|fail)
    refine At.nextPick [0,1,2,3,4,5,6,7,8,9,10,11,12,13,14,15,16,17,18,20] ⟨k+1,xx_ P v ⟨at1,false,rg,ce,dr,se⟩,stepX P ⟨at1,false,rg,ce,dr,se⟩ x,tr++[at1],at1⟩ ?_ rfl rfl rfl ?_ rfl ?_ ?_ ?_ rfl
    ·exact k135_
    ·exact k40_
    ·exact k136_
    ·exact k32_
    ·exact k136_
   ·rw[runA_bad rfl (by omega) hst]at hr1
    subst hr1
    have hn190:=stepE_ne190 P v ⟨at1,false,rg,ce,dr,se⟩
    have hl2:(tr++[at1]).length=k+1:=by simp[hl]
    repeat' (first|refine Ctl.h ?_ |((with_reducible intro hif);first |(focus (cases hif;done)) |((try simp only[JH]at hif);try exact hy_)) |((with_reducible first|apply J22 zj_ za_|apply J23 fol zj_ za_|apply J24);(·rfl);(· exact k142_);(try kernel_rfl);try exact k15_)|fail)
    with_reducible apply WF.split 3 5
    ·rfl
    with_reducible apply At.run zj_ za_
    ·rfl
    ·rfl
    ·rfl
    ·exact k132_
    ·exact xd_
    with_reducible apply At.yield (gr:=_)
    ·rfl
    ·rfl
    ·rfl
    ·rfl
    ·rfl
    ·rfl
    ·exact k132_
    ·exact k134_
    ·exact k132_
    ·exact xd_
    ·exact k132_
    ·exact xd_
    ·exact k134_
    ·exact hrec
    ·exact hcf
    ·rfl
    ·rfl
    ·rfl
    intro lb E2 next hE2 hnext
    repeat' (first|refine Ctl.h ?_ |((with_reducible intro hif);first |(focus (cases hif;done)) |((try simp only[JH]at hif);try exact hy_)) |((with_reducible first|apply J22 zj_ za_|apply J23 fol zj_ za_|apply J24);(·rfl);(· exact k143_);(try kernel_rfl);try exact k15_)|fail)
    with_reducible apply At.begins hrec
    ·rfl
    with_reducible refine At.code ?_
    repeat' (first|refine Ctl.h ?_ |((with_reducible intro hif);first |(focus (cases hif;done)) |((try simp only[JH]at hif);try exact hy_)) |((with_reducible first|apply J22 zj_ za_|apply J23 fol zj_ za_|apply J24);(·rfl);(· (simp only[push_cast,↓JP,Nat.reduceAdd,Nat.reduceEqDiff,Nat.reduceLT,Nat.reduceMul,Nat.reduceLeDiff,reduceCtorEq,reduceIte,↓JK,cRun,JM,engP,prP,macP,z3_,memN,eB,prO,pbB,fbB,JE,eEnded,eAt,eStep,wb_,inR,inN,hst,hn190];rfl));(try kernel_rfl);try exact k15_)|fail)
    with_reducible apply At.roundExit
    ·exact k134_
    apply hnext
    with_reducible apply At.runEnd zj_ za_
    ·rfl
    ·rfl
    ·rfl
    ·exact k132_
    ·exact xd_
    repeat' (first|refine Ctl.h ?_ |((with_reducible intro hif);first |(focus (cases hif;done)) |((try simp only[JH]at hif);try exact hy_)) |((with_reducible first|apply J22 zj_ za_|apply J23 fol zj_ za_|apply J24);(·rfl);(· exact k143_);(try kernel_rfl);try exact k15_)|fail)
    with_reducible apply At.itRet .done
    ·rfl
    ·rfl
    ·intro h;cases h
    apply haft
    intro w1 M1 D1 hA
    dsimp only
    repeat' (first|refine Ctl.h ?_ |((with_reducible intro hif);first |(focus (cases hif;done)) |((try simp only[JH]at hif);try exact hy_)) |((with_reducible first|apply J22 zj_ za_|apply J23 fol zj_ za_|apply J24);(·rfl);(· exact k143_);(try kernel_rfl);try exact k15_)|fail)
    apply At.endsRet za_ (fn:=Tryz.f13) (rs:=[.cell 12 42,.tmp 13]) hA hro (lb_ rfl) rfl
    ·exact yl_
    ·exact k6_
    ·exact k7_
    ·rfl
    ·exact k136_
    ·exact k9_
    ·exact fun β=>by rw[hl2];rfl
    ·exact k136_
  ·have e0:f.toNat - k=0:=by omega
   have hkf2:¬(k:Int) < f:=by omega
   rw[e0,x7_ rfl]at hr1
   subst hr1
   repeat' (first|refine Ctl.h ?_ |((with_reducible intro hif);first |(focus (cases hif;done)) |((try simp only[JH]at hif);try exact hy_)) |((with_reducible first|apply J22 zj_ za_|apply J23 fol zj_ za_|apply J24);(·rfl);(· (simp only[push_cast,↓JP,Nat.reduceAdd,Nat.reduceEqDiff,Nat.reduceLT,Nat.reduceMul,Nat.reduceLeDiff,reduceCtorEq,reduceIte,↓JK,cRun,JM,engP,prP,macP,z3_,memN,eB,prO,pbB,fbB,JE,eEnded,eAt,eStep,wb_,inR,inN,hkf2];rfl));(try kernel_rfl);try exact k15_)|fail)
   with_reducible apply WF.split 3 5
   ·rfl
   with_reducible apply At.run zj_ za_
   ·rfl
   ·rfl
   ·rfl
   ·exact k137_
   ·exact xd_
   with_reducible apply At.yield (gr:=_)
   ·rfl
   ·rfl
   ·rfl
   ·rfl
   ·rfl
   ·rfl
   ·exact k137_
   ·exact k138_
   ·exact k137_
   ·exact xd_
   ·exact k137_
   ·exact xd_
   ·exact k138_
   ·exact hrec
   ·exact hcf
   ·rfl
   ·rfl
   ·rfl
   intro lb E2 next hE2 hnext
   repeat' (first|refine Ctl.h ?_ |((with_reducible intro hif);first |(focus (cases hif;done)) |((try simp only[JH]at hif);try exact hy_)) |((with_reducible first|apply J22 zj_ za_|apply J23 fol zj_ za_|apply J24);(·rfl);(· exact k145_);(try kernel_rfl);try exact k15_)|fail)
   with_reducible apply At.begins hrec
   ·rfl
   with_reducible refine At.code ?_
   repeat' (first|refine Ctl.h ?_ |((with_reducible intro hif);first |(focus (cases hif;done)) |((try simp only[JH]at hif);try exact hy_)) |((with_reducible first|apply J22 zj_ za_|apply J23 fol zj_ za_|apply J24);(·rfl);(· exact k145_);(try kernel_rfl);try exact k15_)|fail)
   with_reducible apply At.roundExit
   ·exact k138_
   apply hnext
   with_reducible apply At.runEnd zj_ za_
   ·rfl
   ·rfl
   ·rfl
   ·exact k137_
   ·exact xd_
   repeat' (first|refine Ctl.h ?_ |((with_reducible intro hif);first |(focus (cases hif;done)) |((try simp only[JH]at hif);try exact hy_)) |((with_reducible first|apply J22 zj_ za_|apply J23 fol zj_ za_|apply J24);(·rfl);(· exact k145_);(try kernel_rfl);try exact k15_)|fail)
   with_reducible apply At.itRet .done
   ·rfl
   ·rfl
   ·intro h;cases h
   apply haft
   intro w1 M1 D1 hA
   dsimp only
   repeat' (first|refine Ctl.h ?_ |((with_reducible intro hif);first |(focus (cases hif;done)) |((try simp only[JH]at hif);try exact hy_)) |((with_reducible first|apply J22 zj_ za_|apply J23 fol zj_ za_|apply J24);(·rfl);(· exact k145_);(try kernel_rfl);try exact k15_)|fail)
   apply At.endsRet za_ (fn:=Tryz.f13) (rs:=[.cell 12 42,.tmp 13]) hA hro (lb_ rfl) rfl
   ·exact yl_
   ·exact k6_
   ·exact k7_
   ·rfl
   ·exact k136_
   ·exact k9_
   ·exact fun β=>by rw[hl];rfl
   ·exact k136_
 ·rw[x9_ rfl]at hr1
  rw[←hr1]at hb
  exact absurd rfl hb
def cRej:FuncId→Option yn_:=y9_ [(48,sRoB)]
theorem cRej_ok:∀f S,cRej f=some S→zi_ Tryz.prog f S:=zr_ ⟨sRoB_ok,trivial⟩
theorem Run_rej (P:List Ins)(v:Evi)(t s q o y d f:Int)(cs:List Int)(p1 p2:Nat)(hok:∀x∈P,x.ok)(hn:P.length≤1000000)(hc:cs.length≤1000000)(hE:ropE P v (yo_ y t s cs d) f≠0):zs_ Tryz.prog 13 [.sl 1 2 [] 5 0 P.length (some p1),.agg [.int .u64 v.seed,.int .i64 v.process,.int .i64 v.ports,.int .i64 v.look,.int .i64 v.now],.agg [.agg [.int .i64 t,.int .i64 s,.int .i64 q],.int .i64 o,.int .i64 y],.sl 3 4 [] 1 0 cs.length (some p2),.int .i64 d,.int .i64 f]
  [.gone,.gone,.ro (.arr P.length 5 (prS P)),.gone,.ro (.arr cs.length 1 (zp_ cs))]
  (.tup [.agg [.nat .i64 0,.int .i64 0,.sl 0 0 [] 0 0 0 (some 0),.nat .i64 0,.sl 0 0 [] 0 0 0 (some 0)],.int .i64 (ropE P v (yo_ y t s cs d) f)]) [.gone]:=by
 obtain⟨s0,hs0⟩:∃s0,yo_ y t s cs d=s0:=⟨_,rfl⟩
 rw[hs0]at hE ⊢
 refine zf_ (fn:=Tryz.f13) 5 66 0 rfl rfl rfl rfl rfl u20_ rfl fun w0 M E hro=>?_
 repeat' (first|refine Ctl.h ?_ |((with_reducible intro hif);first |(focus (cases hif;done)) |((try simp only[JH]at hif);try exact hy_)) |((with_reducible first|apply J22 cRej_ok za_|apply J23 fol cRej_ok za_|apply J24);(·rfl);(· exact k147_);(try kernel_rfl);try exact k146_)|fail)
 apply At.endsRet za_ (fn:=Tryz.f13) (rs:=[.cell 12 42,.tmp 13]) Anc.refl hro (lb_ rfl) rfl
 ·exact yl_
 ·exact k6_
 ·exact k7_
 ·rfl
 ·exact k136_
 ·exact k9_
 ·exact fun β=>rfl
 ·exact k136_
theorem runO_good {P:List Ins}{v:Evi}{s:Sta}{f:Int}(h:(xp_ P v s f).bad=0):ropE P v s f=0:=by
 by_cases q:ropE P v s f=0
 ·exact q
 ·unfold xp_ at h
  rw[if_neg q]at h
  exact absurd h q
theorem pg_of {P:List Ins}{v:Evi}{s:Sta}{f:Int}(hok:∀x∈P,x.ok)(h:ropE P v s f=0):PG P∧VOk v:=
 have q:=openE_zero (ropE_zero h).2
 ⟨⟨hok,q.1⟩,VOk.of q.2.1⟩
theorem RunB_lit (P:List Ins)(v:Evi)(t s q o y d f:Int)(cs:List Int)(p1 p2:Nat)(hok:∀x∈P,x.ok)(hn:P.length≤1000000)(hc:cs.length≤1000000)(hb:(xp_ P v (yo_ y t s cs d) f).bad≠0):zs_ Tryz.prog 13 [.sl 1 2 [] 5 0 P.length (some p1),.agg [.int .u64 v.seed,.int .i64 v.process,.int .i64 v.ports,.int .i64 v.look,.int .i64 v.now],.agg [.agg [.int .i64 t,.int .i64 s,.int .i64 q],.int .i64 o,.int .i64 y],.sl 3 4 [] 1 0 cs.length (some p2),.int .i64 d,.int .i64 f]
  [.gone,.gone,.ro (.arr P.length 5 (prS P)),.gone,.ro (.arr cs.length 1 (zp_ cs))]
  (.tup [.agg [.nat .i64 (xp_ P v (yo_ y t s cs d) f).tr.length,.int .i64 (xp_ P v (yo_ y t s cs d) f).at_,.sl 0 0 [] 0 0 0 (some 0),.nat .i64 0,.sl 0 0 [] 0 0 0 (some 0)],.int .i64 (xp_ P v (yo_ y t s cs d) f).bad]) [.gone]:=by
 by_cases hE:ropE P v (yo_ y t s cs d) f=0
 ·have e:xp_ P v (yo_ y t s cs d) f=xq_ P v f.toNat (yo_ y t s cs d) Ins0 [] 0:=by unfold xp_;rw[if_pos hE]
  obtain⟨hP,V⟩:=pg_of hok hE
  rw[e]at hb ⊢
  exact Run_bad P v t s q o y d f cs p1 p2 hP V hc hE _ rfl hb
 ·have e:xp_ P v (yo_ y t s cs d) f=⟨[],0,ropE P v (yo_ y t s cs d) f,zeroSt,Ins0⟩:=by unfold xp_;rw[if_neg hE]
  rw[e]
  exact Run_rej P v t s q o y d f cs p1 p2 hok hn hc hE
theorem RunG_lit (P:List Ins)(v:Evi)(t s q o y d f:Int)(cs:List Int)(p1 p2:Nat)(hok:∀x∈P,x.ok)(hc:cs.length≤1000000)(hb:(xp_ P v (yo_ y t s cs d) f).bad=0):zs_ Tryz.prog 13 [.sl 1 2 [] 5 0 P.length (some p1),.agg [.int .u64 v.seed,.int .i64 v.process,.int .i64 v.ports,.int .i64 v.look,.int .i64 v.now],.agg [.agg [.int .i64 t,.int .i64 s,.int .i64 q],.int .i64 o,.int .i64 y],.sl 3 4 [] 1 0 cs.length (some p2),.int .i64 d,.int .i64 f]
  [.gone,.gone,.ro (.arr P.length 5 (prS P)),.gone,.ro (.arr cs.length 1 (zp_ cs))]
  (.tup [.agg [.nat .i64 (xp_ P v (yo_ y t s cs d) f).tr.length,.int .i64 (xp_ P v (yo_ y t s cs d) f).at_,.sl 5 5 [] 1 0 (xp_ P v (yo_ y t s cs d) f).s.cells.length none,.int .i64 (xp_ P v (yo_ y t s cs d) f).s.draws,.sl 6 6 [] 3 0 (xp_ P v (yo_ y t s cs d) f).s.sends.length none],.int .i64 0]) [.gone,.gone,.gone,.gone,.gone,cB (xp_ P v (yo_ y t s cs d) f).s,sB (xp_ P v (yo_ y t s cs d) f).s]:=by
 have hE:=runO_good hb
 have e:xp_ P v (yo_ y t s cs d) f=xq_ P v f.toNat (yo_ y t s cs d) Ins0 [] 0:=by unfold xp_;rw[if_pos hE]
 obtain⟨hP,V⟩:=pg_of hok hE
 rw[e]at hb ⊢
 exact Run_good P v t s q o y d f cs p1 p2 hP V hc hE _ rfl hb
def sRunB:yn_:=fun args h m=>match args with
 | [v1,.agg [v2,v3,v4,v5,v6],.agg [.agg [v7,v8,v9],v10,v11],v12,v13,v14]=>match xm_ h 5 (.tup []) v1,xm_ h 1 (.tup []) v12 with
  | some (c1,n1,f1,r1),some (c12,n12,f12,r12)=>bif isI .u64 v2 && isI .i64 v3 && isI .i64 v4 && isI .i64 v5 && isI .i64 v6 && isI .i64 v7 && isI .i64 v8 && isI .i64 v9 && isI .i64 v10 && isI .i64 v11 && isI .i64 v13 && isI .i64 v14 then some (c1∧c12∧(∀q,q < n1→isIns (f1 q)=true)∧(∀q,q < n12→isI .i64 (f12 q)=true)∧((∀x∈(ls zm_ n1 f1),x.ok))∧(n1≤1000000)∧(n12≤1000000)∧((xp_ (ls zm_ n1 f1) ⟨(iOf v2),(iOf v3),(iOf v4),(iOf v5),(iOf v6)⟩ (yo_ (iOf v11) (iOf v7) (iOf v8) (ls iOf n12 f12) (iOf v13)) (iOf v14)).bad≠0),.tup [.agg [.nat .i64 (xp_ (ls zm_ n1 f1) ⟨(iOf v2),(iOf v3),(iOf v4),(iOf v5),(iOf v6)⟩ (yo_ (iOf v11) (iOf v7) (iOf v8) (ls iOf n12 f12) (iOf v13)) (iOf v14)).tr.length,.int .i64 (xp_ (ls zm_ n1 f1) ⟨(iOf v2),(iOf v3),(iOf v4),(iOf v5),(iOf v6)⟩ (yo_ (iOf v11) (iOf v7) (iOf v8) (ls iOf n12 f12) (iOf v13)) (iOf v14)).at_,.sl 0 0 [] 0 0 0 (some 0),.nat .i64 0,.sl 0 0 [] 0 0 0 (some 0)],.int .i64 (xp_ (ls zm_ n1 f1) ⟨(iOf v2),(iOf v3),(iOf v4),(iOf v5),(iOf v6)⟩ (yo_ (iOf v11) (iOf v7) (iOf v8) (ls iOf n12 f12) (iOf v13)) (iOf v14)).bad],r1++r12,[])else none
  | _,_=>none
 | _=>none
theorem sRunB_ok:zi_ Tryz.prog 13 sRunB:=by
 refine⟨zg_ (by kernel_rfl),fun args h m c v rd wr hs hm hc w0 M β h' w R hrd hwr hst=>?_⟩
 unfold sRunB at hs
 split at hs
 ·rename_i v1 v2 v3 v4 v5 v6 v7 v8 v9 v10 v11 v12 v13 v14
  split at hs
  ·rename_i c1 n1 f1 r1 c12 n12 f12 r12 a1 a12
   obtain⟨hb,hs⟩:=zl_ hs
   simp only[Option.some.injEq,Prod.mk.injEq]at hs
   obtain⟨rfl,rfl,rfl,rfl⟩:=hs
   simp only[Bool.and_eq_true]at hb
   obtain⟨⟨⟨⟨⟨⟨⟨⟨⟨⟨⟨b2,b3⟩,b4⟩,b5⟩,b6⟩,b7⟩,b8⟩,b9⟩,b10⟩,b11⟩,b13⟩,b14⟩:=hb
   obtain⟨k1,k12,g1,g12,y1,y2,y3,y4⟩:=hc
   obtain⟨A1,p1,d1,e1,t1⟩:=zh_ R a1 k1 (fun i hi=>hrd i (List.mem_append_left _ hi)) (by omega)
   obtain⟨A12,p12,d12,e12,t12⟩:=zh_ R a12 k12 (fun i hi=>hrd i (List.mem_append_right _ hi)) (by omega)
   refine yh_ (views:=[⟨5,(ls zm_ n1 f1).length,prS (ls zm_ n1 f1),A1,p1⟩,⟨1,(ls iOf n12 f12).length,zp_ (ls iOf n12 f12),A12,p12⟩]) (RunB_lit (ls zm_ n1 f1) ⟨(iOf v2),(iOf v3),(iOf v4),(iOf v5),(iOf v6)⟩ (iOf v7) (iOf v8) (iOf v9) (iOf v10) (iOf v11) (iOf v13) (iOf v14) (ls iOf n12 f12) p1 p12 y1 (by rw[zb_];exact y2) (by rw[zb_];exact y3) y4) ?_ R hm hwr ?_ ?_ ?_
   ·exact d43_
   ·exact d46_
   ·exact k136_
   ·exact k136_
  ·cases hs
 ·cases hs
def sRunG:yn_:=fun args h m=>match args with
 | [v1,.agg [v2,v3,v4,v5,v6],.agg [.agg [v7,v8,v9],v10,v11],v12,v13,v14]=>match xm_ h 5 (.tup []) v1,xm_ h 1 (.tup []) v12 with
  | some (c1,n1,f1,r1),some (c12,n12,f12,r12)=>bif isI .u64 v2 && isI .i64 v3 && isI .i64 v4 && isI .i64 v5 && isI .i64 v6 && isI .i64 v7 && isI .i64 v8 && isI .i64 v9 && isI .i64 v10 && isI .i64 v11 && isI .i64 v13 && isI .i64 v14 then some (c1∧c12∧(∀q,q < n1→isIns (f1 q)=true)∧(∀q,q < n12→isI .i64 (f12 q)=true)∧((∀x∈(ls zm_ n1 f1),x.ok))∧(n1≤1000000)∧(n12≤1000000)∧((xp_ (ls zm_ n1 f1) ⟨(iOf v2),(iOf v3),(iOf v4),(iOf v5),(iOf v6)⟩ (yo_ (iOf v11) (iOf v7) (iOf v8) (ls iOf n12 f12) (iOf v13)) (iOf v14)).bad=0),.tup [.agg [.nat .i64 (xp_ (ls zm_ n1 f1) ⟨(iOf v2),(iOf v3),(iOf v4),(iOf v5),(iOf v6)⟩ (yo_ (iOf v11) (iOf v7) (iOf v8) (ls iOf n12 f12) (iOf v13)) (iOf v14)).tr.length,.int .i64 (xp_ (ls zm_ n1 f1) ⟨(iOf v2),(iOf v3),(iOf v4),(iOf v5),(iOf v6)⟩ (yo_ (iOf v11) (iOf v7) (iOf v8) (ls iOf n12 f12) (iOf v13)) (iOf v14)).at_,.sl m m [] 1 0 (xp_ (ls zm_ n1 f1) ⟨(iOf v2),(iOf v3),(iOf v4),(iOf v5),(iOf v6)⟩ (yo_ (iOf v11) (iOf v7) (iOf v8) (ls iOf n12 f12) (iOf v13)) (iOf v14)).s.cells.length none,.int .i64 (xp_ (ls zm_ n1 f1) ⟨(iOf v2),(iOf v3),(iOf v4),(iOf v5),(iOf v6)⟩ (yo_ (iOf v11) (iOf v7) (iOf v8) (ls iOf n12 f12) (iOf v13)) (iOf v14)).s.draws,.sl (m+1) (m+1) [] 3 0 (xp_ (ls zm_ n1 f1) ⟨(iOf v2),(iOf v3),(iOf v4),(iOf v5),(iOf v6)⟩ (yo_ (iOf v11) (iOf v7) (iOf v8) (ls iOf n12 f12) (iOf v13)) (iOf v14)).s.sends.length none],.int .i64 0],r1++r12,[(m,cB (xp_ (ls zm_ n1 f1) ⟨(iOf v2),(iOf v3),(iOf v4),(iOf v5),(iOf v6)⟩ (yo_ (iOf v11) (iOf v7) (iOf v8) (ls iOf n12 f12) (iOf v13)) (iOf v14)).s),(m+1,sB (xp_ (ls zm_ n1 f1) ⟨(iOf v2),(iOf v3),(iOf v4),(iOf v5),(iOf v6)⟩ (yo_ (iOf v11) (iOf v7) (iOf v8) (ls iOf n12 f12) (iOf v13)) (iOf v14)).s)])else none
  | _,_=>none
 | _=>none
theorem sRunG_ok:zi_ Tryz.prog 13 sRunG:=by
 refine⟨zg_ (by kernel_rfl),fun args h m c v rd wr hs hm hc w0 M β h' w R hrd hwr hst=>?_⟩
 unfold sRunG at hs
 split at hs
 ·rename_i v1 v2 v3 v4 v5 v6 v7 v8 v9 v10 v11 v12 v13 v14
  split at hs
  ·rename_i c1 n1 f1 r1 c12 n12 f12 r12 a1 a12
   obtain⟨hb,hs⟩:=zl_ hs
   simp only[Option.some.injEq,Prod.mk.injEq]at hs
   obtain⟨rfl,rfl,rfl,rfl⟩:=hs
   simp only[Bool.and_eq_true]at hb
   obtain⟨⟨⟨⟨⟨⟨⟨⟨⟨⟨⟨b2,b3⟩,b4⟩,b5⟩,b6⟩,b7⟩,b8⟩,b9⟩,b10⟩,b11⟩,b13⟩,b14⟩:=hb
   obtain⟨k1,k12,g1,g12,y1,y2,y3,y4⟩:=hc
   obtain⟨A1,p1,d1,e1,t1⟩:=zh_ R a1 k1 (fun i hi=>hrd i (List.mem_append_left _ hi)) (by omega)
   obtain⟨A12,p12,d12,e12,t12⟩:=zh_ R a12 k12 (fun i hi=>hrd i (List.mem_append_right _ hi)) (by omega)
   refine yh_ (views:=[⟨5,(ls zm_ n1 f1).length,prS (ls zm_ n1 f1),A1,p1⟩,⟨1,(ls iOf n12 f12).length,zp_ (ls iOf n12 f12),A12,p12⟩]) (RunG_lit (ls zm_ n1 f1) ⟨(iOf v2),(iOf v3),(iOf v4),(iOf v5),(iOf v6)⟩ (iOf v7) (iOf v8) (iOf v9) (iOf v10) (iOf v11) (iOf v13) (iOf v14) (ls iOf n12 f12) p1 p12 y1 (by rw[zb_];exact y3) y4) ?_ R hm hwr ?_ ?_ ?_
   ·exact d43_
   ·exact d46_
   ·exact k136_
   ·exact k136_
  ·cases hs
 ·cases hs
end Go.Proofs.YtjliakjbdcplcaaGreat.Vm
end
end

import Derived.Test.YtjliakjbdcplcaaGreatQ1
import Derived.Test.YtjliakjbdcplcaaGreatQ4
import Derived.Test.YtjliakjbdcplcaaGreatQ5
import Derived.Test.YtjliakjbdcplcaaGreatQ9
import Derived.Test.YtjliakjbdcplcaaGreatQ20
import Derived.Test.YtjliakjbdcplcaaGreatProg
import Derived.IntWalk
import Derived.WalkSpells
set_option linter.unusedSimpArgs false
set_option linter.unusedVariables false
set_option maxRecDepth 100000
set_option maxHeartbeats 4000000
section
open Go.Proofs.YtjliakjbdcplcaaGreat.Vm Go.RowKit
attribute [local push_cast] prS zo_ zp_ xt_ y8_ y7_ y6_ y5_ y4_ xs_ y3_ y2_ y1_ zn_ z2_ z4_ z1_ zu_ zt_ iOf
section
namespace Go.Proofs.YtjliakjbdcplcaaGreat.Vm
open Go.RowKit
theorem ins_eta (x:Ins):Ins.mk x.op x.a x.b x.c x.n=x:=rfl
def cOneE:FuncId→Option yn_:=y9_ [(86,sROneE)]
theorem cOneE_ok:∀f S,cOneE f=some S→zi_ Tryz.prog f S:=zr_ ⟨sROneE_ok,trivial⟩
def cOneX:FuncId→Option yn_:=y9_ [(86,sROneX)]
theorem cOneX_ok:∀f S,cOneX f=some S→zi_ Tryz.prog f S:=zr_ ⟨sROneX_ok,trivial⟩
def cOne6:FuncId→Option yn_:=y9_ [(86,sROne6)]
theorem cOne6_ok:∀f S,cOne6 f=some S→zi_ Tryz.prog f S:=zr_ ⟨sROne6_ok,trivial⟩
def cOne8:FuncId→Option yn_:=y9_ [(86,sROne8)]
theorem cOne8_ok:∀f S,cOne8 f=some S→zi_ Tryz.prog f S:=zr_ ⟨sROne8_ok,trivial⟩
theorem from_lit (P:List Ins)(v:Evi)(s0:Sta)(p1 p2 p3:Nat)(f:Int)(hP:PG P)(V:VOk v)(hG:FG P s0)(hf0:0≤f)(hf1:f≤1000000)(R:RR)(hr:xq_ P v f.toNat s0 Ins0 [] s0.at_=R)(B:Bool×Bool)(hB:runB P v f.toNat s0 false false=B) :
  zs_ Tryz.prog 43 [.sl 1 2 [] 5 0 P.length (some p1),evS v,sr s0 (.sl 3 4 [] 1 0 s0.cells.length (some p2)) (.sl 5 6 [] 3 0 s0.sends.length (some p3)),.int .i64 f]
  [.gone,.gone,.ro (.arr P.length 5 (prS P)),.gone,.ro (.arr s0.cells.length 1 (zp_ s0.cells)),.gone,.ro (.arr s0.sends.length 3 (zo_ s0.sends))]
  (.agg [.sl 7 7 [] 1 0 R.tr.length none,.int .i64 R.at_,.int .i64 R.bad,sr R.s (SV.ite B.1 (.sl 8 8 [] 1 0 R.s.cells.length none) (.sl 3 4 [] 1 0 s0.cells.length (some p2))) (SV.ite B.2 (.sl 9 9 [] 3 0 R.s.sends.length none) (.sl 5 6 [] 3 0 s0.sends.length (some p3)))])
  [.gone,.gone,.gone,.gone,.gone,.gone,.gone,trO R.tr,cRf (bif B.1 then R.s.cells else []),sRf (bif B.2 then R.s.sends else [])]:=by
 have hplen:=hP.len
 simp only[evS,sr]
 refine zf_ (fn:=Tryz.f43) 7 58 0 rfl rfl rfl rfl rfl (by simp only[ze_,zc_,hp,zp_,prS,yu_,zo_,sndS,evS,sr,ys_,nilS,cRf,sRf,trO];simp[HB.born]) rfl fun w0 M E hro=>?_
 repeat' (first|refine Ctl.h ?_ |((with_reducible intro hif);first |(focus (cases hif;done)) |((try simp only[JH]at hif);try exact hy_)) |((with_reducible first|apply J22 cOneE_ok za_|apply J23 fol cOneE_ok za_|apply J24);(·rfl);(· (simp only[push_cast,↓JP,Nat.reduceAdd,Nat.reduceEqDiff,Nat.reduceLT,Nat.reduceMul,Nat.reduceLeDiff,reduceCtorEq,reduceIte,↓JK,sr,evS,ys_,nilS,inR,inN];rfl));(try kernel_rfl);try exact k15_)|fail)
 refine WF.nilIn 3 1 (zp_ []) 10 112 _ (.agg [.sl 11 11 [] 1 0 0 none, .int .i64 s0.at_, .nat .i64 0, sr s0 (.sl 3 4 [] 1 0 s0.cells.length (some p2)) (.sl 5 6 [] 3 0 s0.sends.length (some p3))]) true (fun _ q => yy_ q) rfl (fun β b0 hβ=>by
   have e:=nilB_cl b0 (show β 11=(none,0) from hβ) 1
   simp only[sr,SV.cl,SV.den,denL]at e ⊢
   rw [e]) (fun h hb=>by
   have k3:=hb 3 (show (3:Nat)≤11 by decide)
   have k4:=hb 4 (show (4:Nat)≤11 by decide)
   have k5:=hb 5 (show (5:Nat)≤11 by decide)
   have k6:=hb 6 (show (6:Nat)≤11 by decide)
   have k11:=hb 11 (show (11:Nat)≤11 by decide)
   simp[sr,zc_,ze_,k3,k4,k5,k6,k11]) rfl (fun n k f e=>by cases e) (fun n k f e=>by cases e) rfl ?_
 simp only[setH,List.cons_append,List.nil_append]
 refine WF.empty 2 1 (zp_ []) (fun _ q=>yy_ q) ?_
 refine WF.empty 177 3 (zo_ []) (fun _ q=>xe_ q) ?_
 simp only[List.cons_append,List.nil_append]
 refine WF.loopAt (fun (z:FS)=>FInv P v f.toNat s0 R B z) (fun (z:FS)=>[(0,.sl 1 2 [] 5 0 P.length (some p1)),(3,.int .i64 f),(5,.ptr 7 []),(8,.ptr 9 []),(9,.ptr 10 [])]) (fun (z:FS)=>[.gone,.gone,.ro (.arr P.length 5 (prS P)),.gone,.ro (.arr s0.cells.length 1 (zp_ s0.cells)),.gone,.ro (.arr s0.sends.length 3 (zo_ s0.sends)),.own 102 (evS v) true,.gone,.own 112 (.agg [nilS,.nat .i64 0,.nat .i64 0,ys_]) true,.own 112 (.agg [.sl 11 11 [] 1 0 z.k none,.int .i64 z.a,.nat .i64 0,sr z.s (SV.ite z.fc (.sl 12 12 [] 1 0 z.nc none) (.sl 3 4 [] 1 0 z.nc (some p2))) (SV.ite z.fs (.sl 13 13 [] 3 0 z.ns none) (.sl 5 6 [] 3 0 z.ns (some p3)))]) true,.own 3 (.arr z.k 1 (zp_ z.tr)) false,.own 2 (.arr z.ct.length 1 (zp_ z.ct)) false,.own 177 (.arr z.st.length 3 (zo_ z.st)) false]) (fun (z:FS)=>f.toNat - z.k) ⟨0,s0,Ins0,[],s0.at_,false,false,s0.cells.length,s0.sends.length⟩ ⟨Nat.zero_le _,hG,rfl,hr,hB,rfl,rfl,fun _=>rfl,fun _=>rfl⟩ ?_ ?_ rfl ?_ ?_ rfl ?_
 ·exact we_
 ·exact k7_
 ·exact k97_
 ·exact k97_
 rintro⟨k,⟨at1,en,rg,ce,dr,se⟩,x,tr,a,fc,fs,nc,ns⟩ H
 have hnc:=H.hc
 have hns:=H.hs
 have hg:=H.hg
 have hl:=H.hl
 have hr1:=H.hr
 have hb1:=H.hb
 have hk:=H.hk
 dsimp only at hnc hns hg hl hr1 hb1 hk
 subst hnc hns hl
 have htl:tr.length≤1000000:=by omega
 have a0:0≤at1:=hg.sg.a0
 have a1:at1 < P.length:=hg.sg.a1
 have hsd:se.length≤256:=hg.sd
 have hcl:ce.length≤1024:=hg.sg.c1
 cases en
 ·by_cases hkf:tr.length < f.toNat
  ·have hne:¬(tr.length:Int)=f:=by omega
   have hK:OOk ⟨at1,false,rg,ce,dr,se⟩ v (insAt P at1):=hg.ook hP V
   obtain⟨xi,hxi⟩:∃xi,insAt P at1=xi:=⟨_,rfl⟩
   rw[hxi]at hK
   have hx:P.getD at1.toNat ⟨0,0,0,0,0⟩=xi:=hxi
   by_cases hE:doE ⟨at1,false,rg,ce,dr,se⟩ v xi=0
   ·by_cases h6:xi.op=6
    ·(have hq1:=H.hc2;have hq2:=H.hs2;dsimp only at hq1 hq2;cases fc<;>cases fs<;>(try (have hq1:=hq1 rfl;subst hq1))<;>(try (have hq2:=hq2 rfl;subst hq2))<;>simp only[FS.ct,FS.st,xk_,cond_true,cond_false])
     all_goals
      repeat' (first|refine Ctl.h ?_ |((with_reducible intro hif);first |(focus (cases hif;done)) |((try simp only[JH]at hif);try exact hy_)) |((with_reducible first|apply J22 cOne6_ok za_|apply J23 fol cOne6_ok za_|apply J24);(·rfl);(· (simp only[push_cast,↓JP,Nat.reduceAdd,Nat.reduceEqDiff,Nat.reduceLT,Nat.reduceMul,Nat.reduceLeDiff,reduceCtorEq,reduceIte,↓JK,cOne6,sROne6,JE,ins_eta,sr,evS,yu_,prS,ys_,nilS,zu_,zt_,iOf,zm_,xu_,xj_,ls_sndsS,ls_sndsS',zb_,Int.cast_ofNat_Int,inR,inN,List.all_cons,List.all_nil,hx,a0,a1,hne,(eq_true hE),(eq_true h6)];rfl));(try kernel_rfl);try exact k106_)|fail)
     ·have eC:(doS ⟨at1,false,rg,s0.cells,dr,s0.sends⟩ v xi).cells.length=s0.cells.length:=doS_clen _ _ _
      have eS:(doS ⟨at1,false,rg,s0.cells,dr,s0.sends⟩ v xi).sends=s0.sends:=doS_sends8 (by omega)
      refine At.nextPick [0,1,2,3,4,5,6,7,8,9,10,15,16,13] ⟨tr.length+1,(doS ⟨at1,false,rg,s0.cells,dr,s0.sends⟩ v xi),stepX P ⟨at1,false,rg,s0.cells,dr,s0.sends⟩ x,tr++[at1],at1,true,false,s0.cells.length,s0.sends.length⟩ ?_ rfl rfl rfl ?_ rfl ?_ ?_ ?_ rfl
      ·exact k98_
      ·exact k99_
      ·exact k97_
      ·exact k32_
      ·exact k97_
     ·have eC:(doS ⟨at1,false,rg,s0.cells,dr,se⟩ v xi).cells.length=s0.cells.length:=doS_clen _ _ _
      have eS:(doS ⟨at1,false,rg,s0.cells,dr,se⟩ v xi).sends=se:=doS_sends8 (by omega)
      refine At.nextPick [0,1,2,3,4,5,6,7,8,9,10,15,16,13] ⟨tr.length+1,(doS ⟨at1,false,rg,s0.cells,dr,se⟩ v xi),stepX P ⟨at1,false,rg,s0.cells,dr,se⟩ x,tr++[at1],at1,true,true,s0.cells.length,se.length⟩ ?_ rfl rfl rfl ?_ rfl ?_ ?_ ?_ rfl
      ·exact k100_
      ·exact k99_
      ·exact k97_
      ·exact k32_
      ·exact k97_
     ·have eC:(doS ⟨at1,false,rg,ce,dr,s0.sends⟩ v xi).cells.length=ce.length:=doS_clen _ _ _
      have eS:(doS ⟨at1,false,rg,ce,dr,s0.sends⟩ v xi).sends=s0.sends:=doS_sends8 (by omega)
      refine At.nextPick [0,1,2,3,4,5,6,7,8,9,10,15,16,13] ⟨tr.length+1,(doS ⟨at1,false,rg,ce,dr,s0.sends⟩ v xi),stepX P ⟨at1,false,rg,ce,dr,s0.sends⟩ x,tr++[at1],at1,true,false,ce.length,s0.sends.length⟩ ?_ rfl rfl rfl ?_ rfl ?_ ?_ ?_ rfl
      ·exact k98_
      ·exact k99_
      ·exact k97_
      ·exact k32_
      ·exact k97_
     ·have eC:(doS ⟨at1,false,rg,ce,dr,se⟩ v xi).cells.length=ce.length:=doS_clen _ _ _
      have eS:(doS ⟨at1,false,rg,ce,dr,se⟩ v xi).sends=se:=doS_sends8 (by omega)
      refine At.nextPick [0,1,2,3,4,5,6,7,8,9,10,15,16,13] ⟨tr.length+1,(doS ⟨at1,false,rg,ce,dr,se⟩ v xi),stepX P ⟨at1,false,rg,ce,dr,se⟩ x,tr++[at1],at1,true,true,ce.length,se.length⟩ ?_ rfl rfl rfl ?_ rfl ?_ ?_ ?_ rfl
      ·exact k100_
      ·exact k99_
      ·exact k97_
      ·exact k32_
      ·exact k97_
    by_cases h8:xi.op=8
    ·(have hq1:=H.hc2;have hq2:=H.hs2;dsimp only at hq1 hq2;cases fc<;>cases fs<;>(try (have hq1:=hq1 rfl;subst hq1))<;>(try (have hq2:=hq2 rfl;subst hq2))<;>simp only[FS.ct,FS.st,xk_,cond_true,cond_false])
     all_goals
      repeat' (first|refine Ctl.h ?_ |((with_reducible intro hif);first |(focus (cases hif;done)) |((try simp only[JH]at hif);try exact hy_)) |((with_reducible first|apply J22 cOne8_ok za_|apply J23 fol cOne8_ok za_|apply J24);(·rfl);(· (simp only[push_cast,↓JP,Nat.reduceAdd,Nat.reduceEqDiff,Nat.reduceLT,Nat.reduceMul,Nat.reduceLeDiff,reduceCtorEq,reduceIte,↓JK,cOne8,sROne8,JE,ins_eta,sr,evS,yu_,prS,ys_,nilS,zu_,zt_,iOf,zm_,xu_,xj_,ls_sndsS,ls_sndsS',zb_,Int.cast_ofNat_Int,inR,inN,List.all_cons,List.all_nil,hx,a0,a1,hne,(eq_true hE),h6,(eq_true h8)];rfl));(try kernel_rfl);try exact k106_)|fail)
     ·have eC:(doS ⟨at1,false,rg,s0.cells,dr,s0.sends⟩ v xi).cells.length=s0.cells.length:=doS_clen _ _ _
      have eC2:(doS ⟨at1,false,rg,s0.cells,dr,s0.sends⟩ v xi).cells=s0.cells:=doS_cells6 h6
      have eS:(doS ⟨at1,false,rg,s0.cells,dr,s0.sends⟩ v xi).sends.length=s0.sends.length+1:=doS_slen hE h8
      refine At.nextPick [0,1,2,3,4,5,6,7,8,9,10,15,12,16] ⟨tr.length+1,(doS ⟨at1,false,rg,s0.cells,dr,s0.sends⟩ v xi),stepX P ⟨at1,false,rg,s0.cells,dr,s0.sends⟩ x,tr++[at1],at1,false,true,s0.cells.length,s0.sends.length+1⟩ ?_ rfl rfl rfl ?_ rfl ?_ ?_ ?_ rfl
      ·exact k101_
      ·exact k102_
      ·exact k97_
      ·exact k32_
      ·exact k97_
     ·have eC:(doS ⟨at1,false,rg,s0.cells,dr,se⟩ v xi).cells.length=s0.cells.length:=doS_clen _ _ _
      have eC2:(doS ⟨at1,false,rg,s0.cells,dr,se⟩ v xi).cells=s0.cells:=doS_cells6 h6
      have eS:(doS ⟨at1,false,rg,s0.cells,dr,se⟩ v xi).sends.length=se.length+1:=doS_slen hE h8
      refine At.nextPick [0,1,2,3,4,5,6,7,8,9,10,15,12,16] ⟨tr.length+1,(doS ⟨at1,false,rg,s0.cells,dr,se⟩ v xi),stepX P ⟨at1,false,rg,s0.cells,dr,se⟩ x,tr++[at1],at1,false,true,s0.cells.length,se.length+1⟩ ?_ rfl rfl rfl ?_ rfl ?_ ?_ ?_ rfl
      ·exact k101_
      ·exact k102_
      ·exact k97_
      ·exact k32_
      ·exact k97_
     ·have eC:(doS ⟨at1,false,rg,ce,dr,s0.sends⟩ v xi).cells.length=ce.length:=doS_clen _ _ _
      have eC2:(doS ⟨at1,false,rg,ce,dr,s0.sends⟩ v xi).cells=ce:=doS_cells6 h6
      have eS:(doS ⟨at1,false,rg,ce,dr,s0.sends⟩ v xi).sends.length=s0.sends.length+1:=doS_slen hE h8
      refine At.nextPick [0,1,2,3,4,5,6,7,8,9,10,15,12,16] ⟨tr.length+1,(doS ⟨at1,false,rg,ce,dr,s0.sends⟩ v xi),stepX P ⟨at1,false,rg,ce,dr,s0.sends⟩ x,tr++[at1],at1,true,true,ce.length,s0.sends.length+1⟩ ?_ rfl rfl rfl ?_ rfl ?_ ?_ ?_ rfl
      ·exact k103_
      ·exact k102_
      ·exact k97_
      ·exact k32_
      ·exact k97_
     ·have eC:(doS ⟨at1,false,rg,ce,dr,se⟩ v xi).cells.length=ce.length:=doS_clen _ _ _
      have eC2:(doS ⟨at1,false,rg,ce,dr,se⟩ v xi).cells=ce:=doS_cells6 h6
      have eS:(doS ⟨at1,false,rg,ce,dr,se⟩ v xi).sends.length=se.length+1:=doS_slen hE h8
      refine At.nextPick [0,1,2,3,4,5,6,7,8,9,10,15,12,16] ⟨tr.length+1,(doS ⟨at1,false,rg,ce,dr,se⟩ v xi),stepX P ⟨at1,false,rg,ce,dr,se⟩ x,tr++[at1],at1,true,true,ce.length,se.length+1⟩ ?_ rfl rfl rfl ?_ rfl ?_ ?_ ?_ rfl
      ·exact k103_
      ·exact k102_
      ·exact k97_
      ·exact k32_
      ·exact k97_
    ·(have hq1:=H.hc2;have hq2:=H.hs2;dsimp only at hq1 hq2;cases fc<;>cases fs<;>(try (have hq1:=hq1 rfl;subst hq1))<;>(try (have hq2:=hq2 rfl;subst hq2))<;>simp only[FS.ct,FS.st,xk_,cond_true,cond_false])
     all_goals
      repeat' (first|refine Ctl.h ?_ |((with_reducible intro hif);first |(focus (cases hif;done)) |((try simp only[JH]at hif);try exact hy_)) |((with_reducible first|apply J22 cOneX_ok za_|apply J23 fol cOneX_ok za_|apply J24);(·rfl);(· (simp only[push_cast,↓JP,Nat.reduceAdd,Nat.reduceEqDiff,Nat.reduceLT,Nat.reduceMul,Nat.reduceLeDiff,reduceCtorEq,reduceIte,↓JK,cOneX,sROneX,JE,ins_eta,sr,evS,yu_,prS,ys_,nilS,zu_,zt_,iOf,zm_,xu_,xj_,ls_sndsS,ls_sndsS',zb_,Int.cast_ofNat_Int,inR,inN,List.all_cons,List.all_nil,hx,a0,a1,hne,(eq_true hE),h6,h8];rfl));(try kernel_rfl);try exact k106_)|fail)
     ·have eC:(doS ⟨at1,false,rg,s0.cells,dr,s0.sends⟩ v xi).cells.length=s0.cells.length:=doS_clen _ _ _
      have eC2:(doS ⟨at1,false,rg,s0.cells,dr,s0.sends⟩ v xi).cells=s0.cells:=doS_cells6 h6
      have eS:(doS ⟨at1,false,rg,s0.cells,dr,s0.sends⟩ v xi).sends=s0.sends:=doS_sends8 (by omega)
      refine At.nextPick [0,1,2,3,4,5,6,7,8,9,10,15,12,13] ⟨tr.length+1,(doS ⟨at1,false,rg,s0.cells,dr,s0.sends⟩ v xi),stepX P ⟨at1,false,rg,s0.cells,dr,s0.sends⟩ x,tr++[at1],at1,false,false,s0.cells.length,s0.sends.length⟩ ?_ rfl rfl rfl ?_ rfl ?_ ?_ ?_ rfl
      ·exact⟨H.step hP V rfl hkf xi hxi hE false false _ (by simp[h6,h8]) (by simp[h6,h8]) (congrArg List.length eS),by show f.toNat - (tr.length+1) < f.toNat - tr.length;omega⟩
      ·exact k104_
      ·exact k97_
      ·exact k32_
      ·exact k97_
     ·have eC:(doS ⟨at1,false,rg,s0.cells,dr,se⟩ v xi).cells.length=s0.cells.length:=doS_clen _ _ _
      have eC2:(doS ⟨at1,false,rg,s0.cells,dr,se⟩ v xi).cells=s0.cells:=doS_cells6 h6
      have eS:(doS ⟨at1,false,rg,s0.cells,dr,se⟩ v xi).sends=se:=doS_sends8 (by omega)
      refine At.nextPick [0,1,2,3,4,5,6,7,8,9,10,15,12,13] ⟨tr.length+1,(doS ⟨at1,false,rg,s0.cells,dr,se⟩ v xi),stepX P ⟨at1,false,rg,s0.cells,dr,se⟩ x,tr++[at1],at1,false,true,s0.cells.length,se.length⟩ ?_ rfl rfl rfl ?_ rfl ?_ ?_ ?_ rfl
      ·exact⟨H.step hP V rfl hkf xi hxi hE false true _ (by simp[h6,h8]) (by simp[h6,h8]) (congrArg List.length eS),by show f.toNat - (tr.length+1) < f.toNat - tr.length;omega⟩
      ·exact k104_
      ·exact k97_
      ·exact k32_
      ·exact k97_
     ·have eC:(doS ⟨at1,false,rg,ce,dr,s0.sends⟩ v xi).cells.length=ce.length:=doS_clen _ _ _
      have eC2:(doS ⟨at1,false,rg,ce,dr,s0.sends⟩ v xi).cells=ce:=doS_cells6 h6
      have eS:(doS ⟨at1,false,rg,ce,dr,s0.sends⟩ v xi).sends=s0.sends:=doS_sends8 (by omega)
      refine At.nextPick [0,1,2,3,4,5,6,7,8,9,10,15,12,13] ⟨tr.length+1,(doS ⟨at1,false,rg,ce,dr,s0.sends⟩ v xi),stepX P ⟨at1,false,rg,ce,dr,s0.sends⟩ x,tr++[at1],at1,true,false,ce.length,s0.sends.length⟩ ?_ rfl rfl rfl ?_ rfl ?_ ?_ ?_ rfl
      ·exact⟨H.step hP V rfl hkf xi hxi hE true false _ (by simp[h6,h8]) (by simp[h6,h8]) (congrArg List.length eS),by show f.toNat - (tr.length+1) < f.toNat - tr.length;omega⟩
      ·exact k104_
      ·exact k97_
      ·exact k32_
      ·exact k97_
     ·have eC:(doS ⟨at1,false,rg,ce,dr,se⟩ v xi).cells.length=ce.length:=doS_clen _ _ _
      have eC2:(doS ⟨at1,false,rg,ce,dr,se⟩ v xi).cells=ce:=doS_cells6 h6
      have eS:(doS ⟨at1,false,rg,ce,dr,se⟩ v xi).sends=se:=doS_sends8 (by omega)
      refine At.nextPick [0,1,2,3,4,5,6,7,8,9,10,15,12,13] ⟨tr.length+1,(doS ⟨at1,false,rg,ce,dr,se⟩ v xi),stepX P ⟨at1,false,rg,ce,dr,se⟩ x,tr++[at1],at1,true,true,ce.length,se.length⟩ ?_ rfl rfl rfl ?_ rfl ?_ ?_ ?_ rfl
      ·exact⟨H.step hP V rfl hkf xi hxi hE true true _ (by simp[h6,h8]) (by simp[h6,h8]) (congrArg List.length eS),by show f.toNat - (tr.length+1) < f.toNat - tr.length;omega⟩
      ·exact k104_
      ·exact k97_
      ·exact k32_
      ·exact k97_
   ·have hsE:x3_ P v ⟨at1,false,rg,ce,dr,se⟩≠0:=by rw[stepE_of rfl];dsimp only;rw[hxi];exact hE
    have eS:xx_ P v ⟨at1,false,rg,ce,dr,se⟩=⟨at1,false,rg,ce,dr,se⟩:=by rw[stepS_of rfl];dsimp only;rw[hxi];exact doS_bad hE
    rw[runA_bad rfl (by omega) hsE,stepE_of rfl,eS]at hr1
    rw[runB_bad rfl hsE]at hb1
    dsimp only at hr1
    rw[hxi]at hr1
    subst hr1 hb1
    (have hq1:=H.hc2;have hq2:=H.hs2;dsimp only at hq1 hq2;cases fc<;>cases fs<;>(try (have hq1:=hq1 rfl;subst hq1))<;>(try (have hq2:=hq2 rfl;subst hq2))<;>simp only[FS.ct,FS.st,xk_,cond_true,cond_false])
    all_goals
     repeat' (first|refine Ctl.h ?_ |((with_reducible intro hif);first |(focus (cases hif;done)) |((try simp only[JH]at hif);try exact hy_)) |((with_reducible first|apply J22 cOneE_ok za_|apply J23 fol cOneE_ok za_|apply J24);(·rfl);(· (simp only[push_cast,↓JP,Nat.reduceAdd,Nat.reduceEqDiff,Nat.reduceLT,Nat.reduceMul,Nat.reduceLeDiff,reduceCtorEq,reduceIte,↓JK,cOneE,sROneE,JE,ins_eta,sr,evS,yu_,prS,ys_,nilS,zu_,zt_,iOf,zm_,xu_,xj_,ls_sndsS,ls_sndsS',zb_,Int.cast_ofNat_Int,inR,inN,List.all_cons,List.all_nil,hx,a0,a1,hne,hE];rfl));(try kernel_rfl);try exact k106_)|fail)
     apply At.endsPick [0,1,2,3,4,5,6,15,12,13] za_ (fn:=Tryz.f43) (rs:=[.cell 8 112]) Anc.refl hro (lb_ rfl) rfl
     ·exact yl_
     ·exact xz_
     ·rfl
     ·rfl
     ·rfl
     ·(repeat' (first|exact trivial|exact .inl rfl|exact .inr (.same _)|exact .inr .loose|exact .inr (.arr (by assumption))|apply And.intro |(exact .inr (less_tr _ _ rfl (fun β=>rfl)))))
     ·rfl
     ·exact k97_
     ·exact k9_
     ·exact fun β=>by rw[show (tr++[at1]).length=tr.length+1 by simp];rfl
     ·exact k97_
  ·have hne:(tr.length:Int)=f:=by omega
   have e0:f.toNat - tr.length=0:=by omega
   rw[e0,x7_ rfl]at hr1
   rw[e0]at hb1
   dsimp only[runB]at hb1 hr1
   subst hr1 hb1
   (have hq1:=H.hc2;have hq2:=H.hs2;dsimp only at hq1 hq2;cases fc<;>cases fs<;>(try (have hq1:=hq1 rfl;subst hq1))<;>(try (have hq2:=hq2 rfl;subst hq2))<;>simp only[FS.ct,FS.st,xk_,cond_true,cond_false])
   all_goals
    repeat' (first|refine Ctl.h ?_ |((with_reducible intro hif);first |(focus (cases hif;done)) |((try simp only[JH]at hif);try exact hy_)) |((with_reducible first|apply J22 cOneE_ok za_|apply J23 fol cOneE_ok za_|apply J24);(·rfl);(· (simp only[push_cast,↓JP,Nat.reduceAdd,Nat.reduceEqDiff,Nat.reduceLT,Nat.reduceMul,Nat.reduceLeDiff,reduceCtorEq,reduceIte,↓JK,cOneE,sROneE,JE,ins_eta,sr,evS,yu_,prS,ys_,nilS,zu_,zt_,iOf,zm_,xu_,xj_,ls_sndsS,ls_sndsS',zb_,Int.cast_ofNat_Int,inR,inN,List.all_cons,List.all_nil,a0,a1,(eq_true hne)];rfl));(try kernel_rfl);try exact k106_)|fail)
    apply At.endsPick [0,1,2,3,4,5,6,11,12,13] za_ (fn:=Tryz.f43) (rs:=[.cell 8 112]) Anc.refl hro (lb_ rfl) rfl
    ·exact yl_
    ·exact xz_
    ·rfl
    ·rfl
    ·rfl
    ·exact k40_
    ·rfl
    ·exact k97_
    ·exact k9_
    ·exact fun β=>rfl
    ·exact k97_
 ·rw[x9_ rfl]at hr1
  rw[runB_end rfl]at hb1
  try dsimp only at hr1
  subst hr1 hb1
  (have hq1:=H.hc2;have hq2:=H.hs2;dsimp only at hq1 hq2;cases fc<;>cases fs<;>(try (have hq1:=hq1 rfl;subst hq1))<;>(try (have hq2:=hq2 rfl;subst hq2))<;>simp only[FS.ct,FS.st,xk_,cond_true,cond_false])
  all_goals
   repeat' (first|refine Ctl.h ?_ |((with_reducible intro hif);first |(focus (cases hif;done)) |((try simp only[JH]at hif);try exact hy_)) |((with_reducible first|apply J22 cOneE_ok za_|apply J23 fol cOneE_ok za_|apply J24);(·rfl);(· (simp only[push_cast,↓JP,Nat.reduceAdd,Nat.reduceEqDiff,Nat.reduceLT,Nat.reduceMul,Nat.reduceLeDiff,reduceCtorEq,reduceIte,↓JK,cOneE,sROneE,JE,ins_eta,sr,evS,yu_,prS,ys_,nilS,zu_,zt_,iOf,zm_,xu_,xj_,ls_sndsS,ls_sndsS',zb_,Int.cast_ofNat_Int,inR,inN,List.all_cons,List.all_nil,a0,a1];rfl));(try kernel_rfl);try exact k106_)|fail)
   apply At.endsPick [0,1,2,3,4,5,6,11,12,13] za_ (fn:=Tryz.f43) (rs:=[.cell 8 112]) Anc.refl hro (lb_ rfl) rfl
   ·exact yl_
   ·exact xz_
   ·rfl
   ·rfl
   ·rfl
   ·exact k40_
   ·rfl
   ·exact k97_
   ·exact k9_
   ·exact fun β=>rfl
   ·exact k97_
theorem tup3_den {a b c a' b' c':SV}{β β':Env}(h:(SV.tup [a,b,c]).den β =(SV.tup [a',b',c']).den β'):a.den β = a'.den β'∧b.den β = b'.den β'∧c.den β = c'.den β':=by
 simpa [SV.den,denL]using h
theorem den_ite {c:Bool}{x y x' y':SV}{β β':Env}(hx:x.den β = x'.den β')(hy:y.den β = y'.den β'):(SV.ite c x y).den β =(SV.ite c x' y').den β':=by
 rw[xk_,xk_];cases c<;>assumption
theorem den_fr {β β':Env}{s:Sta}{t x y t' x' y':SV}{a b:Int}(ht:t.den β = t'.den β')(hx:x.den β = x'.den β')(hy:y.den β = y'.den β'):(SV.agg [t,.int .i64 a,.int .i64 b,sr s x y]).den β =(SV.agg [t',.int .i64 a,.int .i64 b,sr s x' y']).den β':=by
 simp only[sr,SV.den,denL,ht,hx,hy]
theorem stable_fr {h:HM}{s:Sta}{t x y:SV}{a b:Int}(ht:zc_ h t)(hx:zc_ h x)(hy:zc_ h y):zc_ h (.agg [t,.int .i64 a,.int .i64 b,sr s x y]):=by
 simp only[sr,zc_,ze_,ht,hx,hy,and_self,implies_true]
def sFrom:yn_:=fun args h m=>match args with
 | [v1,.agg [v2,v3,v4,v5,v6],.agg [v7,.bool v8,.arr 8 1 v9,v10,v11,v12],v13]=>match xm_ h 5 (.tup []) v1,xm_ h 1 (.tup []) v10,xm_ h 3 (.tup []) v12 with
  | some (c1,n1,f1,r1),some (c10,n10,f10,r10),some (c12,n12,f12,r12)=>bif isI .u64 v2 && isI .i64 v3 && isI .i64 v4 && isI .i64 v5 && isI .i64 v6 && isI .i64 v7 && isI .i64 v11 && isI .i64 v13 then some (c1∧c10∧c12∧(∀q,q < n1→isIns (f1 q)=true)∧(∀q,q < n10→isI .i64 (f10 q)=true)∧(∀q,q < n12→isSnd (f12 q)=true)∧(∀q,q < 8→isI .i64 (v9 q)=true)∧(PG (ls zm_ n1 f1))∧(VOk ⟨(iOf v2),(iOf v3),(iOf v4),(iOf v5),(iOf v6)⟩)∧(FG (ls zm_ n1 f1) ⟨(iOf v7),v8,(fun q=>iOf (v9 q)),(ls iOf n10 f10),(iOf v11),(ls zw_ n12 f12)⟩)∧(0≤(iOf v13))∧((iOf v13)≤1000000),.agg [.sl m m [] 1 0 (xq_ (ls zm_ n1 f1) ⟨(iOf v2),(iOf v3),(iOf v4),(iOf v5),(iOf v6)⟩ (iOf v13).toNat ⟨(iOf v7),v8,(fun q=>iOf (v9 q)),(ls iOf n10 f10),(iOf v11),(ls zw_ n12 f12)⟩ Ins0 [] (iOf v7)).tr.length none,.int .i64 (xq_ (ls zm_ n1 f1) ⟨(iOf v2),(iOf v3),(iOf v4),(iOf v5),(iOf v6)⟩ (iOf v13).toNat ⟨(iOf v7),v8,(fun q=>iOf (v9 q)),(ls iOf n10 f10),(iOf v11),(ls zw_ n12 f12)⟩ Ins0 [] (iOf v7)).at_,.int .i64 (xq_ (ls zm_ n1 f1) ⟨(iOf v2),(iOf v3),(iOf v4),(iOf v5),(iOf v6)⟩ (iOf v13).toNat ⟨(iOf v7),v8,(fun q=>iOf (v9 q)),(ls iOf n10 f10),(iOf v11),(ls zw_ n12 f12)⟩ Ins0 [] (iOf v7)).bad,sr (xq_ (ls zm_ n1 f1) ⟨(iOf v2),(iOf v3),(iOf v4),(iOf v5),(iOf v6)⟩ (iOf v13).toNat ⟨(iOf v7),v8,(fun q=>iOf (v9 q)),(ls iOf n10 f10),(iOf v11),(ls zw_ n12 f12)⟩ Ins0 [] (iOf v7)).s (SV.ite (runB (ls zm_ n1 f1) ⟨(iOf v2),(iOf v3),(iOf v4),(iOf v5),(iOf v6)⟩ (iOf v13).toNat ⟨(iOf v7),v8,(fun q=>iOf (v9 q)),(ls iOf n10 f10),(iOf v11),(ls zw_ n12 f12)⟩ false false).1 (.sl (m+1) (m+1) [] 1 0 (xq_ (ls zm_ n1 f1) ⟨(iOf v2),(iOf v3),(iOf v4),(iOf v5),(iOf v6)⟩ (iOf v13).toNat ⟨(iOf v7),v8,(fun q=>iOf (v9 q)),(ls iOf n10 f10),(iOf v11),(ls zw_ n12 f12)⟩ Ins0 [] (iOf v7)).s.cells.length none) v10) (SV.ite (runB (ls zm_ n1 f1) ⟨(iOf v2),(iOf v3),(iOf v4),(iOf v5),(iOf v6)⟩ (iOf v13).toNat ⟨(iOf v7),v8,(fun q=>iOf (v9 q)),(ls iOf n10 f10),(iOf v11),(ls zw_ n12 f12)⟩ false false).2 (.sl (m+2) (m+2) [] 3 0 (xq_ (ls zm_ n1 f1) ⟨(iOf v2),(iOf v3),(iOf v4),(iOf v5),(iOf v6)⟩ (iOf v13).toNat ⟨(iOf v7),v8,(fun q=>iOf (v9 q)),(ls iOf n10 f10),(iOf v11),(ls zw_ n12 f12)⟩ Ins0 [] (iOf v7)).s.sends.length none) v12)],r1++r10++r12,[(m,trO (xq_ (ls zm_ n1 f1) ⟨(iOf v2),(iOf v3),(iOf v4),(iOf v5),(iOf v6)⟩ (iOf v13).toNat ⟨(iOf v7),v8,(fun q=>iOf (v9 q)),(ls iOf n10 f10),(iOf v11),(ls zw_ n12 f12)⟩ Ins0 [] (iOf v7)).tr),(m+1,cRf (bif (runB (ls zm_ n1 f1) ⟨(iOf v2),(iOf v3),(iOf v4),(iOf v5),(iOf v6)⟩ (iOf v13).toNat ⟨(iOf v7),v8,(fun q=>iOf (v9 q)),(ls iOf n10 f10),(iOf v11),(ls zw_ n12 f12)⟩ false false).1 then(xq_ (ls zm_ n1 f1) ⟨(iOf v2),(iOf v3),(iOf v4),(iOf v5),(iOf v6)⟩ (iOf v13).toNat ⟨(iOf v7),v8,(fun q=>iOf (v9 q)),(ls iOf n10 f10),(iOf v11),(ls zw_ n12 f12)⟩ Ins0 [] (iOf v7)).s.cells else [])),(m+2,sRf (bif (runB (ls zm_ n1 f1) ⟨(iOf v2),(iOf v3),(iOf v4),(iOf v5),(iOf v6)⟩ (iOf v13).toNat ⟨(iOf v7),v8,(fun q=>iOf (v9 q)),(ls iOf n10 f10),(iOf v11),(ls zw_ n12 f12)⟩ false false).2 then(xq_ (ls zm_ n1 f1) ⟨(iOf v2),(iOf v3),(iOf v4),(iOf v5),(iOf v6)⟩ (iOf v13).toNat ⟨(iOf v7),v8,(fun q=>iOf (v9 q)),(ls iOf n10 f10),(iOf v11),(ls zw_ n12 f12)⟩ Ins0 [] (iOf v7)).s.sends else []))])else none
  | _,_,_=>none
 | _=>none
theorem sFrom_ok:zi_ Tryz.prog 43 sFrom:=by
 refine⟨zg_ (by kernel_rfl),fun args h m c v rd wr hs hm hc w0 M β h' w R hrd hwr hst=>?_⟩
 unfold sFrom at hs
 split at hs
 ·rename_i v1 v2 v3 v4 v5 v6 v7 v8 v9 v10 v11 v12 v13
  split at hs
  ·rename_i c1 n1 f1 r1 c10 n10 f10 r10 c12 n12 f12 r12 a1 a10 a12
   obtain⟨hb,hs⟩:=zl_ hs
   simp only[Option.some.injEq,Prod.mk.injEq]at hs
   obtain⟨rfl,rfl,rfl,rfl⟩:=hs
   simp only[Bool.and_eq_true]at hb
   obtain⟨⟨⟨⟨⟨⟨⟨b2,b3⟩,b4⟩,b5⟩,b6⟩,b7⟩,b11⟩,b13⟩:=hb
   obtain⟨k1,k10,k12,g1,g10,g12,g9,y1,y2,y3,y4,y5⟩:=hc
   obtain⟨A1,p1,d1,e1,t1⟩:=zh_ R a1 k1 (fun i hi=>hrd i (List.mem_append_left _ (List.mem_append_left _ hi))) (by omega)
   obtain⟨A10,p10,d10,e10,t10⟩:=zh_ R a10 k10 (fun i hi=>hrd i (List.mem_append_left _ (List.mem_append_right _ hi))) (by omega)
   obtain⟨A12,p12,d12,e12,t12⟩:=zh_ R a12 k12 (fun i hi=>hrd i (List.mem_append_right _ hi)) (by omega)
   have s1:zc_ h' v1:=by simp only[ze_,zc_]at hst;exact hst.1
   have s10:zc_ h' v10:=by simp only[ze_,zc_]at hst;exact hst.2.2.1.2.2.2.1
   have s12:zc_ h' v12:=by simp only[ze_,zc_]at hst;exact hst.2.2.1.2.2.2.2.2.1
   refine callRoV (v':=.tup [.sl 7 7 [] 1 0 (xq_ (ls zm_ n1 f1) ⟨(iOf v2),(iOf v3),(iOf v4),(iOf v5),(iOf v6)⟩ (iOf v13).toNat ⟨(iOf v7),v8,(fun q=>iOf (v9 q)),(ls iOf n10 f10),(iOf v11),(ls zw_ n12 f12)⟩ Ins0 [] (iOf v7)).tr.length none,.sl 8 8 [] 1 0 (xq_ (ls zm_ n1 f1) ⟨(iOf v2),(iOf v3),(iOf v4),(iOf v5),(iOf v6)⟩ (iOf v13).toNat ⟨(iOf v7),v8,(fun q=>iOf (v9 q)),(ls iOf n10 f10),(iOf v11),(ls zw_ n12 f12)⟩ Ins0 [] (iOf v7)).s.cells.length none,.sl 9 9 [] 3 0 (xq_ (ls zm_ n1 f1) ⟨(iOf v2),(iOf v3),(iOf v4),(iOf v5),(iOf v6)⟩ (iOf v13).toNat ⟨(iOf v7),v8,(fun q=>iOf (v9 q)),(ls iOf n10 f10),(iOf v11),(ls zw_ n12 f12)⟩ Ins0 [] (iOf v7)).s.sends.length none]) (views:=[⟨5,(ls zm_ n1 f1).length,prS (ls zm_ n1 f1),A1,p1⟩,⟨1,(ls iOf n10 f10).length,zp_ (ls iOf n10 f10),A10,p10⟩,⟨3,(ls zw_ n12 f12).length,zo_ (ls zw_ n12 f12),A12,p12⟩]) (from_lit (ls zm_ n1 f1) ⟨(iOf v2),(iOf v3),(iOf v4),(iOf v5),(iOf v6)⟩ ⟨(iOf v7),v8,(fun q=>iOf (v9 q)),(ls iOf n10 f10),(iOf v11),(ls zw_ n12 f12)⟩ p1 p10 p12 (iOf v13) y1 y2 y3 y4 y5 _ rfl _ rfl) ?_ R hm hwr ?_ ?_ ?_ ?_ ?_
   ·exact d41_
   ·intro β1 hv
    simp only[Vd,zb_,and_true]at hv
    obtain⟨z1,z10,z12⟩:=hv
    simp only[denL,yb_,ya_,z9_,zx_,zb_,yu_,evS,sr,csl,ssl,z1,z10,z12,d1,d10,d12,zd_ b2,zd_ b3,zd_ b4,zd_ b5,zd_ b6,zd_ b7,zd_ b11,zd_ b13,←r8Den (β:=β) (β1:=β1) g9]
   ·exact k105_
   ·exact k105_
   ·intro h2 hb2 hp2
    obtain⟨q1,q2,q3,_⟩:=hp2;exact stable_fr q1 (zc_.ite q2 (s10.more hb2)) (zc_.ite q3 (s12.more hb2))
   ·intro β2 β' hv he hbo
    simp only[Vd,zb_,and_true]at hv
    obtain⟨z1,z10,z12⟩:=hv
    have u1:=(zc_.den hbo s1).symm.trans d1
    have u10:=(zc_.den hbo s10).symm.trans d10
    have u12:=(zc_.den hbo s12).symm.trans d12
    simp only[SV.ren,renL]at he;obtain⟨q1,q2,q3⟩:=tup3_den he;exact den_fr q1 (den_ite q2 (by rw[u10];simp only[zb_];exact z10)) (den_ite q3 (by rw[u12];simp only[zb_];exact z12))
  ·cases hs
 ·cases hs
def cWh:FuncId→Option yn_:=y9_ [(38,xc_),(39,sRt18),(43,sFrom)]
theorem cWh_ok:∀f S,cWh f=some S→zi_ Tryz.prog f S:=zr_ ⟨sRBegin_ok,sRt18_ok,sFrom_ok,trivial⟩
theorem xl_ (a b c:Int):beginR a b c=begR a b c:=by
 funext j
 rcases j with _|_|_|j
 ·rfl
 ·rfl
 ·rfl
 ·show (0:Int)=if j+3=2 then c else if j+3=1 then b else if j+3=0 then a else 0
  rw[if_neg (by omega),if_neg (by omega),if_neg (by omega)]
theorem yz_ (a b c:Int):(fun j=>beginR a b c j)=begR a b c:=xl_ a b c
theorem z0_:((0:Nat):Int)=0:=rfl
theorem xw_ {α : Type}(g:SV→α)(f:Nat→SV):ls g 0 f=[]:=rfl
theorem begR_R {a b c:Int}(ha:R64 a)(hb:R64 b)(hc:R64 c)(q:Nat):R64 (begR a b c q):=by
 unfold begR
 split
 ·exact hc
 ·split
  ·exact hb
  ·split
   ·exact ha
   ·exact zero_R
theorem runA_fc {P:List Ins}{v:Evi}{s0:Sta}:∀(n:Nat) (s:Sta) (x:Ins) (tr:List Int) (a:Int) (c d:Bool),(c=false→s.cells=s0.cells)→(d=false→s.sends=s0.sends)→((runB P v n s c d).1=false→(xq_ P v n s x tr a).s.cells=s0.cells)∧((runB P v n s c d).2=false→(xq_ P v n s x tr a).s.sends=s0.sends)
 | 0,s,x,tr,a,c,d,hc,hd=>by
  unfold xq_
  split<;>exact⟨hc,hd⟩
 | n+1,s,x,tr,a,c,d,hc,hd=>by
  unfold xq_ runB
  by_cases he:s.ended=true
  ·rw[if_pos he,if_pos he];exact⟨hc,hd⟩
  ·rw[if_neg he,if_neg he]
   have he':s.ended=false:=by cases h:s.ended<;>simp_all
   by_cases hE:x3_ P v s=0
   ·rw[if_pos hE,if_pos hE]
    refine runA_fc n _ _ _ _ _ _ (fun h=>?_) (fun h=>?_)
    ·simp only[Bool.or_eq_false_iff,decide_eq_false_iff_not]at h
     rw[stepS_of he',doS_cells6 h.2];exact hc h.1
    ·simp only[Bool.or_eq_false_iff,decide_eq_false_iff_not]at h
     rw[stepS_of he',doS_sends8 h.2];exact hd h.1
   ·rw[if_neg hE,if_neg hE]
    have e:xx_ P v s=s:=by rw[stepS_of he'];exact doS_bad (by rw[stepE_of he']at hE;exact hE)
    rw[e];exact⟨hc,hd⟩
theorem whole_lit (P:List Ins)(v:Evi)(y t s d f:Int)(cs:List Int)(p1 p2:Nat)(hok:∀x∈P,x.ok)(hn:P.length≤1000000)(hc:cs.length≤1000000)(hw:∀k,R64 (cs.getD k 0))(hy:R64 y)(ht:R64 t)(hs:R64 s)(R:RR)(hR:xp_ P v (yo_ y t s cs d) f=R):zs_ Tryz.prog 87 [.sl 1 2 [] 5 0 P.length (some p1),evS v,.int .i64 y,.int .i64 t,.int .i64 s,.sl 3 4 [] 1 0 cs.length (some p2),.int .i64 d,.int .i64 f]
  [.gone,.gone,.ro (.arr P.length 5 (prS P)),.gone,.ro (.arr cs.length 1 (zp_ cs))]
  (.agg [.sl 5 5 [] 1 0 R.tr.length none,.int .i64 R.at_,.int .i64 R.bad,sr R.s (.sl 6 6 [] 1 0 R.s.cells.length none) (.sl 7 7 [] 3 0 R.s.sends.length none)])
  [.gone,.gone,.gone,.gone,.gone,trO R.tr,cRf R.s.cells,sRf R.s.sends]:=by
 simp only[evS]
 obtain⟨s0,hs0⟩:∃s0,yo_ y t s cs d=s0:=⟨_,rfl⟩
 have hs0':Sta.mk 0 false (begR y t s) cs d []=s0:=hs0
 rw[hs0]at hR
 by_cases h1:f < 0
 ·have e:xp_ P v s0 f=⟨[],0,2,zeroSt,Ins0⟩:=by unfold xp_ ropE rrE;simp[h1]
  rw[e]at hR
  subst hR
  refine zf_ (fn:=Tryz.f87) 5 45 0 rfl rfl rfl rfl rfl u13_ rfl fun w0 M E hro=>?_
  repeat' (first|refine Ctl.h ?_ |((with_reducible intro hif);first |(focus (cases hif;done)) |((try simp only[JH]at hif);try exact hy_)) |((with_reducible first|apply J22 cWh_ok za_|apply J23 fol cWh_ok za_|apply J24);(·rfl);(· (simp only[push_cast,↓JP,Nat.reduceAdd,Nat.reduceEqDiff,Nat.reduceLT,Nat.reduceMul,Nat.reduceLeDiff,reduceCtorEq,reduceIte,↓JK,JE,cWh,xc_,sRt18,sFrom,sr,evS,ys_,nilS,zu_,zt_,iOf,xl_,yz_,hs0',z0_,xw_,zb_,Int.cast_ofNat_Int,inR,inN,h1];rfl));(try kernel_rfl);try exact k107_)|fail)
  refine At.nilIn 3 1 (zp_ []) 6 112 (.agg [.sl 0 0 [] 0 0 0 (some 0), .nat .i64 0, .nat .i64 2, .agg [.nat .i64 0, .bool false, .arr 8 1 (fun _ => .nat .i64 0), .sl 0 0 [] 0 0 0 (some 0), .nat .i64 0, .sl 0 0 [] 0 0 0 (some 0)]]) (.agg [.sl 7 7 [] 1 0 0 none, .nat .i64 0, .nat .i64 2, .agg [.nat .i64 0, .bool false, .arr 8 1 (fun _ => .nat .i64 0), .sl 0 0 [] 0 0 0 (some 0), .nat .i64 0, .sl 0 0 [] 0 0 0 (some 0)]]) true (fun _ q => yy_ q) rfl (fun β b0 hβ=>by
     have e:=nilB_cl b0 (show β 7=(none,0) from hβ) 1
     simp only[SV.cl,SV.den,denL]at e ⊢
     rw [e]) (fun h hb=>by
     have k0:=hb 0 (show (0:Nat)≤7 by decide)
     have k7:=hb 7 (show (7:Nat)≤7 by decide)
     simp[zc_,ze_,k0,k7]) rfl (fun n k f e=>by cases e) (fun n k f e=>by cases e) rfl ?_
  simp only[setH,List.cons_append,List.nil_append]
  refine At.nilIn 2 1 (zp_ []) 6 112 (.agg [.sl 7 7 [] 1 0 0 none, .nat .i64 0, .nat .i64 2, .agg [.nat .i64 0, .bool false, .arr 8 1 (fun _ => .nat .i64 0), .sl 0 0 [] 0 0 0 (some 0), .nat .i64 0, .sl 0 0 [] 0 0 0 (some 0)]]) (.agg [.sl 7 7 [] 1 0 0 none, .nat .i64 0, .nat .i64 2, .agg [.nat .i64 0, .bool false, .arr 8 1 (fun _ => .nat .i64 0), .sl 8 8 [] 1 0 0 none, .nat .i64 0, .sl 0 0 [] 0 0 0 (some 0)]]) true (fun _ q => yy_ q) rfl (fun β b0 hβ=>by
     have e:=nilB_cl b0 (show β 8=(none,0) from hβ) 1
     simp only[SV.cl,SV.den,denL]at e ⊢
     rw [e]) (fun h hb=>by
     have k0:=hb 0 (show (0:Nat)≤8 by decide)
     have k7:=hb 7 (show (7:Nat)≤8 by decide)
     have k8:=hb 8 (show (8:Nat)≤8 by decide)
     simp[zc_,ze_,k0,k7,k8]) rfl (fun n k f e=>by cases e) (fun n k f e=>by cases e) rfl ?_
  simp only[setH,List.cons_append,List.nil_append]
  refine At.nilIn 177 3 (zo_ []) 6 112 (.agg [.sl 7 7 [] 1 0 0 none, .nat .i64 0, .nat .i64 2, .agg [.nat .i64 0, .bool false, .arr 8 1 (fun _ => .nat .i64 0), .sl 8 8 [] 1 0 0 none, .nat .i64 0, .sl 0 0 [] 0 0 0 (some 0)]]) (.agg [.sl 7 7 [] 1 0 0 none, .nat .i64 0, .nat .i64 2, .agg [.nat .i64 0, .bool false, .arr 8 1 (fun _ => .nat .i64 0), .sl 8 8 [] 1 0 0 none, .nat .i64 0, .sl 9 9 [] 3 0 0 none]]) true (fun _ q => xe_ q) rfl (fun β b0 hβ=>by
     have e:=nilB_cl b0 (show β 9=(none,0) from hβ) 3
     simp only[SV.cl,SV.den,denL]at e ⊢
     rw [e]) (fun h hb=>by
     have k0:=hb 0 (show (0:Nat)≤9 by decide)
     have k7:=hb 7 (show (7:Nat)≤9 by decide)
     have k8:=hb 8 (show (8:Nat)≤9 by decide)
     have k9:=hb 9 (show (9:Nat)≤9 by decide)
     simp[zc_,ze_,k0,k7,k8,k9]) rfl (fun n k f e=>by cases e) (fun n k f e=>by cases e) rfl ?_
  simp only[setH,List.cons_append,List.nil_append]
  apply At.endsPick [0,1,2,3,4,7,8,9] za_ (fn:=Tryz.f87) (rs:=[.cell 16 112]) Anc.refl hro (lb_ rfl) rfl
  ·exact yl_
  ·exact xz_
  ·rfl
  ·rfl
  ·rfl
  ·exact k40_
  ·rfl
  ·exact k105_
  ·exact k9_
  ·exact fun β=>rfl
  ·exact k105_
 by_cases h2:4096 < f
 ·have e:xp_ P v s0 f=⟨[],0,2,zeroSt,Ins0⟩:=by unfold xp_ ropE rrE;simp[h2]
  rw[e]at hR
  subst hR
  refine zf_ (fn:=Tryz.f87) 5 45 0 rfl rfl rfl rfl rfl u13_ rfl fun w0 M E hro=>?_
  repeat' (first|refine Ctl.h ?_ |((with_reducible intro hif);first |(focus (cases hif;done)) |((try simp only[JH]at hif);try exact hy_)) |((with_reducible first|apply J22 cWh_ok za_|apply J23 fol cWh_ok za_|apply J24);(·rfl);(· (simp only[push_cast,↓JP,Nat.reduceAdd,Nat.reduceEqDiff,Nat.reduceLT,Nat.reduceMul,Nat.reduceLeDiff,reduceCtorEq,reduceIte,↓JK,JE,cWh,xc_,sRt18,sFrom,sr,evS,ys_,nilS,zu_,zt_,iOf,xl_,yz_,hs0',z0_,xw_,zb_,Int.cast_ofNat_Int,inR,inN,h1,h2];rfl));(try kernel_rfl);try exact k107_)|fail)
  refine At.nilIn 3 1 (zp_ []) 6 112 (.agg [.sl 0 0 [] 0 0 0 (some 0), .nat .i64 0, .nat .i64 2, .agg [.nat .i64 0, .bool false, .arr 8 1 (fun _ => .nat .i64 0), .sl 0 0 [] 0 0 0 (some 0), .nat .i64 0, .sl 0 0 [] 0 0 0 (some 0)]]) (.agg [.sl 7 7 [] 1 0 0 none, .nat .i64 0, .nat .i64 2, .agg [.nat .i64 0, .bool false, .arr 8 1 (fun _ => .nat .i64 0), .sl 0 0 [] 0 0 0 (some 0), .nat .i64 0, .sl 0 0 [] 0 0 0 (some 0)]]) true (fun _ q => yy_ q) rfl (fun β b0 hβ=>by
     have e:=nilB_cl b0 (show β 7=(none,0) from hβ) 1
     simp only[SV.cl,SV.den,denL]at e ⊢
     rw [e]) (fun h hb=>by
     have k0:=hb 0 (show (0:Nat)≤7 by decide)
     have k7:=hb 7 (show (7:Nat)≤7 by decide)
     simp[zc_,ze_,k0,k7]) rfl (fun n k f e=>by cases e) (fun n k f e=>by cases e) rfl ?_
  simp only[setH,List.cons_append,List.nil_append]
  refine At.nilIn 2 1 (zp_ []) 6 112 (.agg [.sl 7 7 [] 1 0 0 none, .nat .i64 0, .nat .i64 2, .agg [.nat .i64 0, .bool false, .arr 8 1 (fun _ => .nat .i64 0), .sl 0 0 [] 0 0 0 (some 0), .nat .i64 0, .sl 0 0 [] 0 0 0 (some 0)]]) (.agg [.sl 7 7 [] 1 0 0 none, .nat .i64 0, .nat .i64 2, .agg [.nat .i64 0, .bool false, .arr 8 1 (fun _ => .nat .i64 0), .sl 8 8 [] 1 0 0 none, .nat .i64 0, .sl 0 0 [] 0 0 0 (some 0)]]) true (fun _ q => yy_ q) rfl (fun β b0 hβ=>by
     have e:=nilB_cl b0 (show β 8=(none,0) from hβ) 1
     simp only[SV.cl,SV.den,denL]at e ⊢
     rw [e]) (fun h hb=>by
     have k0:=hb 0 (show (0:Nat)≤8 by decide)
     have k7:=hb 7 (show (7:Nat)≤8 by decide)
     have k8:=hb 8 (show (8:Nat)≤8 by decide)
     simp[zc_,ze_,k0,k7,k8]) rfl (fun n k f e=>by cases e) (fun n k f e=>by cases e) rfl ?_
  simp only[setH,List.cons_append,List.nil_append]
  refine At.nilIn 177 3 (zo_ []) 6 112 (.agg [.sl 7 7 [] 1 0 0 none, .nat .i64 0, .nat .i64 2, .agg [.nat .i64 0, .bool false, .arr 8 1 (fun _ => .nat .i64 0), .sl 8 8 [] 1 0 0 none, .nat .i64 0, .sl 0 0 [] 0 0 0 (some 0)]]) (.agg [.sl 7 7 [] 1 0 0 none, .nat .i64 0, .nat .i64 2, .agg [.nat .i64 0, .bool false, .arr 8 1 (fun _ => .nat .i64 0), .sl 8 8 [] 1 0 0 none, .nat .i64 0, .sl 9 9 [] 3 0 0 none]]) true (fun _ q => xe_ q) rfl (fun β b0 hβ=>by
     have e:=nilB_cl b0 (show β 9=(none,0) from hβ) 3
     simp only[SV.cl,SV.den,denL]at e ⊢
     rw [e]) (fun h hb=>by
     have k0:=hb 0 (show (0:Nat)≤9 by decide)
     have k7:=hb 7 (show (7:Nat)≤9 by decide)
     have k8:=hb 8 (show (8:Nat)≤9 by decide)
     have k9:=hb 9 (show (9:Nat)≤9 by decide)
     simp[zc_,ze_,k0,k7,k8,k9]) rfl (fun n k f e=>by cases e) (fun n k f e=>by cases e) rfl ?_
  simp only[setH,List.cons_append,List.nil_append]
  apply At.endsPick [0,1,2,3,4,7,8,9] za_ (fn:=Tryz.f87) (rs:=[.cell 16 112]) Anc.refl hro (lb_ rfl) rfl
  ·exact yl_
  ·exact xz_
  ·rfl
  ·rfl
  ·rfl
  ·exact k40_
  ·rfl
  ·exact k105_
  ·exact k9_
  ·exact fun β=>rfl
  ·exact k105_
 have hrr:rrE f=0:=by unfold rrE;rw[if_neg (by omega)]
 have hrop:ropE P v s0 f=yt_ P v s0:=by unfold ropE;rw[if_pos hrr]
 by_cases hE:yt_ P v s0=0
 case neg=>
  have e:xp_ P v s0 f=⟨[],0,yt_ P v s0,zeroSt,Ins0⟩:=by unfold xp_;rw[hrop,if_neg hE]
  rw[e]at hR
  subst hR
  refine zf_ (fn:=Tryz.f87) 5 45 0 rfl rfl rfl rfl rfl u13_ rfl fun w0 M E hro=>?_
  repeat' (first|refine Ctl.h ?_ |((with_reducible intro hif);first |(focus (cases hif;done)) |((try simp only[JH]at hif);try exact hy_)) |((with_reducible first|apply J22 cWh_ok za_|apply J23 fol cWh_ok za_|apply J24);(·rfl);(· (simp only[push_cast,↓JP,Nat.reduceAdd,Nat.reduceEqDiff,Nat.reduceLT,Nat.reduceMul,Nat.reduceLeDiff,reduceCtorEq,reduceIte,↓JK,JE,cWh,xc_,sRt18,sFrom,sr,evS,ys_,nilS,zu_,zt_,iOf,xl_,yz_,hs0',z0_,xw_,zb_,Int.cast_ofNat_Int,inR,inN,h1,h2,hE];rfl));(try kernel_rfl);try exact k107_)|fail)
  refine At.nilIn 3 1 (zp_ []) 6 112 (.agg [.sl 0 0 [] 0 0 0 (some 0), .nat .i64 0, .int .i64 (yt_ P v s0), .agg [.nat .i64 0, .bool false, .arr 8 1 (fun _ => .nat .i64 0), .sl 0 0 [] 0 0 0 (some 0), .nat .i64 0, .sl 0 0 [] 0 0 0 (some 0)]]) (.agg [.sl 9 9 [] 1 0 0 none, .nat .i64 0, .int .i64 (yt_ P v s0), .agg [.nat .i64 0, .bool false, .arr 8 1 (fun _ => .nat .i64 0), .sl 0 0 [] 0 0 0 (some 0), .nat .i64 0, .sl 0 0 [] 0 0 0 (some 0)]]) true (fun _ q => yy_ q) rfl (fun β b0 hβ=>by
     have e:=nilB_cl b0 (show β 9=(none,0) from hβ) 1
     simp only[SV.cl,SV.den,denL]at e ⊢
     rw [e]) (fun h hb=>by
     have k0:=hb 0 (show (0:Nat)≤9 by decide)
     have k9:=hb 9 (show (9:Nat)≤9 by decide)
     simp[zc_,ze_,k0,k9]) rfl (fun n k f e=>by cases e) (fun n k f e=>by cases e) rfl ?_
  simp only[setH,List.cons_append,List.nil_append]
  refine At.nilIn 2 1 (zp_ []) 6 112 (.agg [.sl 9 9 [] 1 0 0 none, .nat .i64 0, .int .i64 (yt_ P v s0), .agg [.nat .i64 0, .bool false, .arr 8 1 (fun _ => .nat .i64 0), .sl 0 0 [] 0 0 0 (some 0), .nat .i64 0, .sl 0 0 [] 0 0 0 (some 0)]]) (.agg [.sl 9 9 [] 1 0 0 none, .nat .i64 0, .int .i64 (yt_ P v s0), .agg [.nat .i64 0, .bool false, .arr 8 1 (fun _ => .nat .i64 0), .sl 10 10 [] 1 0 0 none, .nat .i64 0, .sl 0 0 [] 0 0 0 (some 0)]]) true (fun _ q => yy_ q) rfl (fun β b0 hβ=>by
     have e:=nilB_cl b0 (show β 10=(none,0) from hβ) 1
     simp only[SV.cl,SV.den,denL]at e ⊢
     rw [e]) (fun h hb=>by
     have k0:=hb 0 (show (0:Nat)≤10 by decide)
     have k9:=hb 9 (show (9:Nat)≤10 by decide)
     have k10:=hb 10 (show (10:Nat)≤10 by decide)
     simp[zc_,ze_,k0,k9,k10]) rfl (fun n k f e=>by cases e) (fun n k f e=>by cases e) rfl ?_
  simp only[setH,List.cons_append,List.nil_append]
  refine At.nilIn 177 3 (zo_ []) 6 112 (.agg [.sl 9 9 [] 1 0 0 none, .nat .i64 0, .int .i64 (yt_ P v s0), .agg [.nat .i64 0, .bool false, .arr 8 1 (fun _ => .nat .i64 0), .sl 10 10 [] 1 0 0 none, .nat .i64 0, .sl 0 0 [] 0 0 0 (some 0)]]) (.agg [.sl 9 9 [] 1 0 0 none, .nat .i64 0, .int .i64 (yt_ P v s0), .agg [.nat .i64 0, .bool false, .arr 8 1 (fun _ => .nat .i64 0), .sl 10 10 [] 1 0 0 none, .nat .i64 0, .sl 11 11 [] 3 0 0 none]]) true (fun _ q => xe_ q) rfl (fun β b0 hβ=>by
     have e:=nilB_cl b0 (show β 11=(none,0) from hβ) 3
     simp only[SV.cl,SV.den,denL]at e ⊢
     rw [e]) (fun h hb=>by
     have k0:=hb 0 (show (0:Nat)≤11 by decide)
     have k9:=hb 9 (show (9:Nat)≤11 by decide)
     have k10:=hb 10 (show (10:Nat)≤11 by decide)
     have k11:=hb 11 (show (11:Nat)≤11 by decide)
     simp[zc_,ze_,k0,k9,k10,k11]) rfl (fun n k f e=>by cases e) (fun n k f e=>by cases e) rfl ?_
  simp only[setH,List.cons_append,List.nil_append]
  apply At.endsPick [0,1,2,3,4,9,10,11] za_ (fn:=Tryz.f87) (rs:=[.cell 16 112]) Anc.refl hro (lb_ rfl) rfl
  ·exact yl_
  ·exact xz_
  ·rfl
  ·rfl
  ·rfl
  ·exact k40_
  ·rfl
  ·exact k105_
  ·exact k9_
  ·exact fun β=>rfl
  ·exact k105_
 have hO:=openE_zero hE
 have hP:PG P:=⟨hok,hO.1⟩
 have V:=VOk.of hO.2.1
 have hsg:SG P s0:=SG.of hO.2.2 (by rw[←hs0];simp[yo_])
 have hG:FG P s0:=⟨hsg,by rw[←hs0];exact begR_R hy ht hs,by rw[←hs0];exact hw,by rw[←hs0];simp[yo_]⟩
 have e:xp_ P v s0 f=xq_ P v f.toNat s0 Ins0 [] 0:=by unfold xp_;rw[hrop,if_pos hE]
 rw[e]at hR
 obtain⟨B,hB⟩:∃B,runB P v f.toNat s0 false false=B:=⟨_,rfl⟩
 have hF:=runA_fc (P:=P) (v:=v) (s0:=s0) f.toNat s0 Ins0 [] 0 false false (fun _=>rfl) (fun _=>rfl)
 rw[hR,hB]at hF
 have hcs:s0.cells=cs:=by rw[←hs0];rfl
 have hss:s0.sends=[]:=by rw[←hs0];rfl
 rw[hcs,hss]at hF
 obtain⟨b1,b2⟩:=B
 obtain⟨tr,ra,rb,⟨rat,ren,rrg,rce,rdr,rse⟩,rx⟩:=R
 dsimp only at hF
 have hf0:0≤f:=by omega
 have hf1:f≤1000000:=by omega
 cases b1<;>cases b2<;>(try (have hq1:=hF.1 rfl;subst hq1))<;>(try (have hq2:=hF.2 rfl;subst hq2))
 all_goals
  refine zf_ (fn:=Tryz.f87) 5 45 0 rfl rfl rfl rfl rfl u13_ rfl fun w0 M E hro=>?_
  repeat' (first|refine Ctl.h ?_ |((with_reducible intro hif);first |(focus (cases hif;done)) |((try simp only[JH]at hif);try exact hy_)) |((with_reducible first|apply J22 cWh_ok za_|apply J23 fol cWh_ok za_|apply J24);(·rfl);(· (simp only[push_cast,↓JP,Nat.reduceAdd,Nat.reduceEqDiff,Nat.reduceLT,Nat.reduceMul,Nat.reduceLeDiff,reduceCtorEq,reduceIte,↓JK,JE,cWh,xc_,sRt18,sFrom,sr,evS,ys_,nilS,zu_,zt_,iOf,xl_,yz_,hs0',z0_,xw_,zb_,Int.cast_ofNat_Int,inR,inN,h1,h2,(eq_true hE),hR,hB,xk_,cond_true,cond_false];rfl));(try kernel_rfl);try exact k107_)|fail)
 ·refine At.nilIn 177 3 (zo_ []) 6 112 (.agg [.sl 9 9 [] 1 0 tr.length none, .int .i64 ra, .int .i64 rb, .agg [.int .i64 rat, .bool ren, .arr 8 1 (fun q => .int .i64 (rrg q)), .sl 7 7 [] 1 0 rce.length none, .int .i64 rdr, .sl 0 0 [] 0 0 0 (some 0)]]) (.agg [.sl 9 9 [] 1 0 tr.length none, .int .i64 ra, .int .i64 rb, .agg [.int .i64 rat, .bool ren, .arr 8 1 (fun q => .int .i64 (rrg q)), .sl 7 7 [] 1 0 rce.length none, .int .i64 rdr, .sl 12 12 [] 3 0 0 none]]) true (fun _ q => xe_ q) rfl (fun β b0 hβ=>by
     have e:=nilB_cl b0 (show β 12=(none,0) from hβ) 3
     simp only[SV.cl,SV.den,denL]at e ⊢
     rw [e]) (fun h hb=>by
     have k9:=hb 9 (show (9:Nat)≤12 by decide)
     have kc:=hb 7 (show (7:Nat)≤12 by decide)
     have k12:=hb 12 (show (12:Nat)≤12 by decide)
     simp[zc_,ze_,k9,kc,k12]) rfl (fun n k f e=>by cases e) (fun n k f e=>by cases e) rfl ?_
  simp only[setH,List.cons_append,List.nil_append]
  apply At.endsPick [0,1,2,3,4,9,7,12] za_ (fn:=Tryz.f87) (rs:=[.cell 16 112]) Anc.refl hro (lb_ rfl) rfl
  ·exact yl_
  ·exact xz_
  ·rfl
  ·rfl
  ·rfl
  ·exact k40_
  ·rfl
  ·exact k105_
  ·exact k9_
  ·exact fun β=>rfl
  ·exact k105_
 ·apply At.endsPick [0,1,2,3,4,9,7,11] za_ (fn:=Tryz.f87) (rs:=[.cell 16 112]) Anc.refl hro (lb_ rfl) rfl
  ·exact yl_
  ·exact xz_
  ·rfl
  ·rfl
  ·rfl
  ·exact k40_
  ·rfl
  ·exact k105_
  ·exact k9_
  ·exact fun β=>rfl
  ·exact k105_
 ·refine At.nilIn 177 3 (zo_ []) 6 112 (.agg [.sl 9 9 [] 1 0 tr.length none, .int .i64 ra, .int .i64 rb, .agg [.int .i64 rat, .bool ren, .arr 8 1 (fun q => .int .i64 (rrg q)), .sl 10 10 [] 1 0 rce.length none, .int .i64 rdr, .sl 0 0 [] 0 0 0 (some 0)]]) (.agg [.sl 9 9 [] 1 0 tr.length none, .int .i64 ra, .int .i64 rb, .agg [.int .i64 rat, .bool ren, .arr 8 1 (fun q => .int .i64 (rrg q)), .sl 10 10 [] 1 0 rce.length none, .int .i64 rdr, .sl 12 12 [] 3 0 0 none]]) true (fun _ q => xe_ q) rfl (fun β b0 hβ=>by
     have e:=nilB_cl b0 (show β 12=(none,0) from hβ) 3
     simp only[SV.cl,SV.den,denL]at e ⊢
     rw [e]) (fun h hb=>by
     have k9:=hb 9 (show (9:Nat)≤12 by decide)
     have kc:=hb 10 (show (10:Nat)≤12 by decide)
     have k12:=hb 12 (show (12:Nat)≤12 by decide)
     simp[zc_,ze_,k9,kc,k12]) rfl (fun n k f e=>by cases e) (fun n k f e=>by cases e) rfl ?_
  simp only[setH,List.cons_append,List.nil_append]
  apply At.endsPick [0,1,2,3,4,9,10,12] za_ (fn:=Tryz.f87) (rs:=[.cell 16 112]) Anc.refl hro (lb_ rfl) rfl
  ·exact yl_
  ·exact xz_
  ·rfl
  ·rfl
  ·rfl
  ·exact k40_
  ·rfl
  ·exact k105_
  ·exact k9_
  ·exact fun β=>rfl
  ·exact k105_
 ·apply At.endsPick [0,1,2,3,4,9,10,11] za_ (fn:=Tryz.f87) (rs:=[.cell 16 112]) Anc.refl hro (lb_ rfl) rfl
  ·exact yl_
  ·exact xz_
  ·rfl
  ·rfl
  ·rfl
  ·exact k40_
  ·rfl
  ·exact k105_
  ·exact k9_
  ·exact fun β=>rfl
  ·exact k105_
end Go.Proofs.YtjliakjbdcplcaaGreat.Vm
end
end
section
namespace Go.Proofs.YtjliakjbdcplcaaGreat
open Go.RowKit
theorem reads_new (X:World)(t:TypeId)(cs:Array Value)(k n B gg:Nat)(h:gg=X.heap.size)(hB:gg < B)(hl:cs.size=n*k):xr_ (X.alloc (.cells cs t)) B k (some ⟨gg,0,none⟩) n cs.toList:=by
 subst h
 refine⟨by simpa using hl,fun _=>⟨_,rfl,hB,fun j u hu=>?_⟩⟩
 rw[Addr.add_lit,cell_of_row _ _ _ _ _ _ (heap_alloc_new X _),Nat.zero_add]
 simpa using hu
theorem Blk.row {W:World}{g:Nat}{t:TypeId}{cs:Array Value}(h:Blk W g t cs)(cs':Array Value):Blk (W.setRow g cs') g t cs':=setRow_heap _ _ _ _ _ _ h
theorem infoIns:(Tryz.prog.info? 38).map (fun i=>(i.zero,i.size,i.bytes))=some (some (.agg #[.int .u8 0,.int .u8 0,.int .u8 0,.int .u8 0,.int .i64 0]),5,16):=by kernel_rfl
def IsRow (w:World)(g k:Nat):Prop:=∃t cs,Blk w g t cs∧cs.size=k
section
variable {d:Option Tmp} {x y:Operand} {ty:TypeId} {pos:String} {after:Array Edge} {guard:Option (Nat×Bool)} {a:Act} {w:World} {K:Act→World→Prop} {Q:Exit→Act→World→Prop}
end
structure Rd where
 size:Nat
 A:Option Addr
 n:Nat
 xs:List Value
structure Bk where
 g:Nat
 t:TypeId
 cs:Array Value
structure AW (w:World) (L:List Bk) (R:List Rd) (W:World):Prop where
 b:Below w.heap.size w W
 l:∀e∈L,Blk W e.g e.t e.cs
 r:∀e∈R,xr_ W W.heap.size e.size e.A e.n e.xs
section
variable {w W W':World} {L:List Bk} {R:List Rd}
theorem AW.start (w:World):AW w [] [⟨1,none,0,[]⟩,⟨3,none,0,[]⟩] w:=
 ⟨Below.refl _ _,by simp,fun e he=>by
  simp only[List.mem_cons,List.not_mem_nil,or_false]at he
  rcases he with rfl|rfl<;>exact xr_.none_⟩
theorem AW.drew (h:AW w L R W):AW w L R W.drew:=⟨h.b.drew,h.l,h.r⟩
theorem AW.call (h:AW w L R W)(hb:Below W.heap.size W W'):AW w L R W':=
 ⟨h.b.trans (hb.mono h.b.size),fun e he=>(h.l e he).below hb (h.l e he).lt,fun e he=>((h.r e he).below hb).more hb.size⟩
theorem AW.alloc (h:AW w L R W)(o:Obj):AW w L R (W.alloc o):=
 ⟨h.b.alloc h.b.size _,fun e he=>(h.l e he).alloc _,fun e he=>((h.r e he).alloc (Nat.le_refl _) o).more (by simp)⟩
theorem AW.put (h:AW w L R W)(t:TypeId)(cs:Array Value):AW w (⟨W.heap.size,t,cs⟩ :: L) R (W.alloc (.cells cs t)):=
 ⟨(h.alloc _).b,fun e he=>by
  rcases List.mem_cons.1 he with rfl|he
  ·exact Blk.new _ _ _
  ·exact(h.alloc _).l e he,(h.alloc _).r⟩
theorem AW.read (h:AW w L R W){e:Rd}(he:xr_ W W.heap.size e.size e.A e.n e.xs):AW w L (e::R) W:=
 ⟨h.b,h.l,fun x hx=>by
  rcases List.mem_cons.1 hx with rfl|hx
  ·exact he
  ·exact h.r x hx⟩
theorem AW.array (h:AW w L R W)(t:TypeId)(cs:Array Value)(k n:Nat)(hl:cs.size=n*k):AW w L (⟨k,some ⟨W.heap.size,0,none⟩,n,cs.toList⟩ :: R) (W.alloc (.cells cs t)):=
 (h.alloc _).read (reads_new W t cs k n _ _ rfl (by simp) hl)
theorem AW.less (h:AW w L R W){L':List Bk}{R':List Rd}(hl:L' ⊆ L)(hr:R' ⊆ R):AW w L' R' W:=⟨h.b,fun e he=>h.l e (hl he),fun e he=>h.r e (hr he)⟩
theorem IsRow.below {g k:Nat}(h:IsRow W g k)(hb:Below W.heap.size W W'):IsRow W' g k:=by
 obtain⟨t,cs,hB,hk⟩:=h
 exact⟨t,cs,hB.below hb hB.lt,hk⟩
theorem xr_.call {k n:Nat}{A:Option Addr}{xs:List Value}(h:xr_ W W.heap.size k A n xs)(hb:Below W.heap.size W W'):xr_ W' W'.heap.size k A n xs:=(h.below hb).more hb.size
end
end Go.Proofs.YtjliakjbdcplcaaGreat
end
section
namespace Go.Proofs.YtjliakjbdcplcaaGreat
open Go.RowKit
theorem info64:(Tryz.prog.info? 2).map (fun i=>(i.zero,i.size,i.bytes))=some (some (.int .i64 0),1,8):=by kernel_rfl
theorem infoSend:(Tryz.prog.info? 125).map (fun i=>(i.zero,i.size,i.bytes))=some (some (.agg #[.int .i64 0,.int .i64 0,.int .i64 0]),3,24):=by kernel_rfl
set_option maxRecDepth 100000 in
set_option maxHeartbeats 1000000 in
theorem clone64_some (ad:Addr)(n c:Nat)(xs:List Value)(w:World)(h:xr_ w w.heap.size 1 (some ad) n xs)(h1:∀u∈xs,u.oneCell'=true)(hn:n*8≤140737488355328)(hm:n≤maxLen) :
    Calls Tryz.prog 35 #[.slice (some ad) n c] w fun e w'=>∃v,e=.returned v∧w'.ownsRow w.heap.size 2 1 v (0+n) ([]++xs)∧Below w.heap.size w w':=by
  obtain⟨i0,hi,hz0,hz1,hz2⟩:=info_parts info64
  have hr:=(h.alloc (Nat.le_refl _) (.cells #[] 2))
  have H1:=Lib.hid h1
  have HN:=Lib.hid hn
  have HM:=Lib.hid hm
  have HR:=Lib.hid hr
  clear h h1 hn hm hr
  have kn:=fun (w:World) (a:Option Addr) (n c:Nat)=>eql_nil (P:=Tryz.prog) w 30 2 a n c Tryz.underlying30
  go_enter Tryz.func35,Tryz.ntmps35
  go_wp2_with (at_builtin
               refine wpList_append_any _ rfl (.tmp 5) (.tmp 6) _ rfl w.heap.size 2 i0 _ 1 8 Tryz.underlying30 hi hz0 hz1 hz2 rfl (by omega) (.slice (some ⟨w.heap.size,0,none⟩) 0 0) 0 [] rfl
                 (World.ownsRow_made w #[] 0 (Nat.le_refl _) (Nat.zero_le _) rfl) w.heap.size (some ad) n c xs rfl HR.out H1.out (by have:=HM.out;omega) (by have:=HN.out;omega) (by simp) ?_
               intro v1 w1 hown1 hg1 hat1)
  go_ret
  refine⟨v1,rfl,hown1,((Below.refl _ w).alloc (Nat.le_refl _) _).grown hg1 (by simp) (fun k hk=>?_)⟩
  rcases hat1 with e|e<;>simp[Value.ownBlock]at hk<;>omega
theorem clone64_nil (n c:Nat)(w:World) :
  Calls Tryz.prog 35 #[.slice none n c] w fun e w'=>e=.returned (.slice none 0 0)∧w=w':=by
 have kn:=fun (w:World) (a:Option Addr) (n c:Nat)=>eql_nil (P:=Tryz.prog) w 30 2 a n c Tryz.underlying30
 go_enter Tryz.func35,Tryz.ntmps35
 go_wp2
 go_ret
 exact⟨rfl,rfl⟩
theorem clone64_c (A:Option Addr)(n c:Nat)(xs:List Value)(w:World)(h:xr_ w w.heap.size 1 A n xs)(h1:∀u∈xs,u.oneCell'=true)(hn:n*8≤140737488355328) :
  Calls Tryz.prog 35 #[.slice A n c] w fun e w'=>∃v,e=.returned v∧w'.ownsRow w.heap.size 2 1 v n xs∧Below w.heap.size w w':=by
 cases A with
 | none=>
  have hn0:n=0:=by
   rcases Nat.eq_zero_or_pos n with h0|h0
   ·exact h0
   ·obtain⟨ad,e,_⟩:=h.2 h0
    cases e
  subst hn0
  have hx:xs=[]:=List.eq_nil_of_length_eq_zero (by simpa using h.1)
  subst hx
  refine(clone64_nil 0 c w).mono ?_
  rintro e w' ⟨rfl,rfl⟩
  exact⟨_,rfl,World.ownsRow_nil _ _ _ _,Below.refl _ _⟩
 | some ad=>
  have hm:n≤maxLen:=by unfold maxLen;omega
  refine(clone64_some ad n c xs w h h1 hn hm).mono ?_
  rintro e w' ⟨v,rfl,ho,hb⟩
  exact⟨v,rfl,by simpa using ho,hb⟩
set_option maxRecDepth 100000 in
set_option maxHeartbeats 1000000 in
theorem cloneIns_some (ad:Addr)(n c:Nat)(xs:List Value)(w:World)(h:xr_ w w.heap.size 5 (some ad) n xs)(h1:∀u∈xs,u.oneCell'=true)(hn:n*16≤140737488355328)(hm:n≤maxLen) :
    Calls Tryz.prog 34 #[.slice (some ad) n c] w fun e w'=>∃v,e=.returned v∧w'.ownsRow w.heap.size 38 5 v (0+n) ([]++xs)∧Below w.heap.size w w':=by
  obtain⟨i0,hi,hz0,hz1,hz2⟩:=info_parts infoIns
  have hr:=(h.alloc (Nat.le_refl _) (.cells #[] 38))
  have H1:=Lib.hid h1
  have HN:=Lib.hid hn
  have HM:=Lib.hid hm
  have HR:=Lib.hid hr
  clear h h1 hn hm hr
  have kn:=fun (w:World) (a:Option Addr) (n c:Nat)=>eql_nil (P:=Tryz.prog) w 22 38 a n c Tryz.underlying22
  go_enter Tryz.func34,Tryz.ntmps34
  go_wp2_with (at_builtin
               refine wpList_append_any _ rfl (.tmp 5) (.tmp 6) _ rfl w.heap.size 38 i0 _ 5 16 Tryz.underlying22 hi hz0 hz1 hz2 rfl (by omega) (.slice (some ⟨w.heap.size,0,none⟩) 0 0) 0 [] rfl
                 (World.ownsRow_made w #[] 0 (Nat.le_refl _) (Nat.zero_le _) rfl) w.heap.size (some ad) n c xs rfl HR.out H1.out (by have:=HM.out;omega) (by have:=HN.out;omega) (by simp) ?_
               intro v1 w1 hown1 hg1 hat1)
  go_ret
  refine⟨v1,rfl,hown1,((Below.refl _ w).alloc (Nat.le_refl _) _).grown hg1 (by simp) (fun k hk=>?_)⟩
  rcases hat1 with e|e<;>simp[Value.ownBlock]at hk<;>omega
theorem cloneIns_nil (n c:Nat)(w:World) :
  Calls Tryz.prog 34 #[.slice none n c] w fun e w'=>e=.returned (.slice none 0 0)∧w=w':=by
 have kn:=fun (w:World) (a:Option Addr) (n c:Nat)=>eql_nil (P:=Tryz.prog) w 22 38 a n c Tryz.underlying22
 go_enter Tryz.func34,Tryz.ntmps34
 go_wp2
 go_ret
 exact⟨rfl,rfl⟩
theorem cloneIns_c (A:Option Addr)(n c:Nat)(xs:List Value)(w:World)(h:xr_ w w.heap.size 5 A n xs)(h1:∀u∈xs,u.oneCell'=true)(hn:n*16≤140737488355328) :
  Calls Tryz.prog 34 #[.slice A n c] w fun e w'=>∃v,e=.returned v∧w'.ownsRow w.heap.size 38 5 v n xs∧Below w.heap.size w w':=by
 cases A with
 | none=>
  have hn0:n=0:=by
   rcases Nat.eq_zero_or_pos n with h0|h0
   ·exact h0
   ·obtain⟨ad,e,_⟩:=h.2 h0
    cases e
  subst hn0
  have hx:xs=[]:=List.eq_nil_of_length_eq_zero (by simpa using h.1)
  subst hx
  refine(cloneIns_nil 0 c w).mono ?_
  rintro e w' ⟨rfl,rfl⟩
  exact⟨_,rfl,World.ownsRow_nil _ _ _ _,Below.refl _ _⟩
 | some ad=>
  have hm:n≤maxLen:=by unfold maxLen;omega
  refine(cloneIns_some ad n c xs w h h1 hn hm).mono ?_
  rintro e w' ⟨v,rfl,ho,hb⟩
  exact⟨v,rfl,by simpa using ho,hb⟩
set_option maxRecDepth 100000 in
set_option maxHeartbeats 1000000 in
theorem cloneSend_some (ad:Addr)(n c:Nat)(xs:List Value)(w:World)(h:xr_ w w.heap.size 3 (some ad) n xs)(h1:∀u∈xs,u.oneCell'=true)(hn:n*24≤140737488355328)(hm:n≤maxLen) :
    Calls Tryz.prog 123 #[.slice (some ad) n c] w fun e w'=>∃v,e=.returned v∧w'.ownsRow w.heap.size 125 3 v (0+n) ([]++xs)∧Below w.heap.size w w':=by
  obtain⟨i0,hi,hz0,hz1,hz2⟩:=info_parts infoSend
  have hr:=(h.alloc (Nat.le_refl _) (.cells #[] 125))
  have H1:=Lib.hid h1
  have HN:=Lib.hid hn
  have HM:=Lib.hid hm
  have HR:=Lib.hid hr
  clear h h1 hn hm hr
  have kn:=fun (w:World) (a:Option Addr) (n c:Nat)=>eql_nil (P:=Tryz.prog) w 40 125 a n c Tryz.underlying40
  go_enter Tryz.func123,Tryz.ntmps123
  go_wp2_with (at_builtin
               refine wpList_append_any _ rfl (.tmp 5) (.tmp 6) _ rfl w.heap.size 125 i0 _ 3 24 Tryz.underlying40 hi hz0 hz1 hz2 rfl (by omega) (.slice (some ⟨w.heap.size,0,none⟩) 0 0) 0 [] rfl
                 (World.ownsRow_made w #[] 0 (Nat.le_refl _) (Nat.zero_le _) rfl) w.heap.size (some ad) n c xs rfl HR.out H1.out (by have:=HM.out;omega) (by have:=HN.out;omega) (by simp) ?_
               intro v1 w1 hown1 hg1 hat1)
  go_ret
  refine⟨v1,rfl,hown1,((Below.refl _ w).alloc (Nat.le_refl _) _).grown hg1 (by simp) (fun k hk=>?_)⟩
  rcases hat1 with e|e<;>simp[Value.ownBlock]at hk<;>omega
theorem cloneSend_nil (n c:Nat)(w:World) :
  Calls Tryz.prog 123 #[.slice none n c] w fun e w'=>e=.returned (.slice none 0 0)∧w=w':=by
 have kn:=fun (w:World) (a:Option Addr) (n c:Nat)=>eql_nil (P:=Tryz.prog) w 40 125 a n c Tryz.underlying40
 go_enter Tryz.func123,Tryz.ntmps123
 go_wp2
 go_ret
 exact⟨rfl,rfl⟩
theorem cloneSend_c (A:Option Addr)(n c:Nat)(xs:List Value)(w:World)(h:xr_ w w.heap.size 3 A n xs)(h1:∀u∈xs,u.oneCell'=true)(hn:n*24≤140737488355328) :
  Calls Tryz.prog 123 #[.slice A n c] w fun e w'=>∃v,e=.returned v∧w'.ownsRow w.heap.size 125 3 v n xs∧Below w.heap.size w w':=by
 cases A with
 | none=>
  have hn0:n=0:=by
   rcases Nat.eq_zero_or_pos n with h0|h0
   ·exact h0
   ·obtain⟨ad,e,_⟩:=h.2 h0
    cases e
  subst hn0
  have hx:xs=[]:=List.eq_nil_of_length_eq_zero (by simpa using h.1)
  subst hx
  refine(cloneSend_nil 0 c w).mono ?_
  rintro e w' ⟨rfl,rfl⟩
  exact⟨_,rfl,World.ownsRow_nil _ _ _ _,Below.refl _ _⟩
 | some ad=>
  have hm:n≤maxLen:=by unfold maxLen;omega
  refine(cloneSend_some ad n c xs w h h1 hn hm).mono ?_
  rintro e w' ⟨v,rfl,ho,hb⟩
  exact⟨v,rfl,by simpa using ho,hb⟩
end Go.Proofs.YtjliakjbdcplcaaGreat
end
section
namespace Go.Proofs.YtjliakjbdcplcaaGreat.Vm
open Go.RowKit
def sClI:yn_:=fun args h m=>match args with
 | [v]=>match xm_ h 5 (.tup []) v with
  | some (c,n,f,rd)=>some (c∧(∀q,q < n→isIns (f q)=true)∧n≤1000000,.sl m m [] 5 0 n none,rd,[(m,.own 38 (.arr n 5 (prS (ls zm_ n f))) false)])
  | _=>none
 | _=>none
theorem sClI_ok:zi_ Tryz.prog 34 sClI:=by
 refine⟨zg_ (by kernel_rfl),fun args h m c v rd wr hs hm hc w0 M β h' w R hrd hwr hst=>?_⟩
 unfold sClI at hs
 split at hs
 ·rename_i v0
  split at hs
  ·rename_i c' n f rd' ha
   simp only[Option.some.injEq,Prod.mk.injEq]at hs
   obtain⟨rfl,rfl,rfl,rfl⟩:=hs
   obtain⟨hc1,hi,hn⟩:=hc
   obtain⟨A,cap,hden,hnc,hr⟩:=zh_ R ha hc1 hrd (by omega)
   simp only[denL,hden]
   refine(cloneIns_c A n cap _ w hr (fun u hu=>elems_sane u hu) (by omega)).mono fun e w' he=>?_
   obtain⟨p,rfl,ho,hb⟩:=he
   have hmd:h' m=.dead:=(hwr _ (.head _)).trans (hm m (Nat.le_refl _))
   obtain ⟨e', R', hv⟩ := (R.below hb).made (f := prS (ls zm_ n f)) hmd ho R.size (by
     rw[elems_ins hi]
     have:=elems_prS (β:=β) (ls zm_ n f)
     rwa [zb_] at this) prS_stable (fun g i a' hg hmi hai e=>by
    have:=R.lt i a' hmi hai
    obtain⟨_,⟨rfl,_⟩|⟨g',cap',cur,rfl,hg',_⟩⟩:=ho
    ·cases hg
    ·simp[Value.ownBlock]at hg
     omega)
   exact⟨_,ym_ hmd,R',stable_new,by rw[hv]⟩
  ·cases hs
 ·cases hs
end Go.Proofs.YtjliakjbdcplcaaGreat.Vm
end

import Derived.Test.YtjliakjbdcplcaaGreatQ1
import Derived.Test.YtjliakjbdcplcaaGreatQ30
set_option linter.unusedSimpArgs false
set_option linter.unusedVariables false
set_option maxRecDepth 100000
set_option maxHeartbeats 4000000
section
namespace Go.Proofs.YtjliakjbdcplcaaGreat.Vm
open Go.RowKit
attribute [local push_cast] prS zo_ zp_ xt_ y8_ y7_ y6_ y5_ y4_ xs_ y3_ y2_ y1_ zn_ z2_ z4_ z1_ zu_ zt_ iOf
def cGB:FuncId→Option yn_:=y9_ [(33,y0_),(34,sClI),(35,sCl64),(37,sTh14),(38,xc_),(39,sRt18),(40,sSpo),(16,rBack),(18,rState),(19,rUsed),(43,sFrom),(42,sTh18),(41,wg_),(36,sNewB),(15,rGo)]
theorem cGB_ok:∀f S,cGB f=some S→zi_ Tryz.prog f S:=zr_ ⟨sCSmall_ok,sClI_ok,sCl64_ok,sTh14_ok,sRBegin_ok,sRt18_ok,sSpo_ok,rBack_ok,rState_ok,rUsed_ok,sFrom_ok,sTh18_ok,sRSame_ok,sNewB_ok,rGo_ok,trivial⟩
def cGG:FuncId→Option yn_:=y9_ [(33,y0_),(34,sClI),(35,sCl64),(37,sTh14),(38,xc_),(39,sRt18),(40,sSpo),(16,rBack),(18,rState),(19,rUsed),(43,sFrom),(42,sTh18),(41,wg_),(36,sNewG),(15,rGo)]
theorem cGG_ok:∀f S,cGG f=some S→zi_ Tryz.prog f S:=zr_ ⟨sCSmall_ok,sClI_ok,sCl64_ok,sTh14_ok,sRBegin_ok,sRt18_ok,sSpo_ok,rBack_ok,rState_ok,rUsed_ok,sFrom_ok,sTh18_ok,sRSame_ok,sNewG_ok,rGo_ok,trivial⟩
def cGR:FuncId→Option yn_:=y9_ [(33,y0_),(34,sClI),(35,sCl64),(37,sTh14),(38,xc_),(39,sRt18),(40,sSpo),(16,rBack),(18,rState),(19,rUsed),(43,sFrom),(42,sTh18),(41,wg_),(36,sNewG),(15,rGoR)]
theorem cGR_ok:∀f S,cGR f=some S→zi_ Tryz.prog f S:=zr_ ⟨sCSmall_ok,sClI_ok,sCl64_ok,sTh14_ok,sRBegin_ok,sRt18_ok,sSpo_ok,rBack_ok,rState_ok,rUsed_ok,sFrom_ok,sTh18_ok,sRSame_ok,sNewG_ok,rGoR_ok,trivial⟩
def cGS:FuncId→Option yn_:=y9_ [(33,y0_),(34,sClI),(35,sCl64),(37,sTh14),(38,xc_),(39,sRt18),(40,sSpo),(16,rBack),(19,rUsed),(42,sTh18),(41,wg_),(36,sNewG),(15,rGo)]
theorem cGS_ok:∀f S,cGS f=some S→zi_ Tryz.prog f S:=zr_ ⟨sCSmall_ok,sClI_ok,sCl64_ok,sTh14_ok,sRBegin_ok,sRt18_ok,sSpo_ok,rBack_ok,rUsed_ok,sTh18_ok,sRSame_ok,sNewG_ok,rGo_ok,trivial⟩
theorem goes_lit (P:List Ins)(v:Evi)(t s q o y d f:Int)(cs ps:List Int)(p1 p2 p3:Nat)(hok:∀x∈P,x.ok)(hw:∀k,R64 (cs.getD k 0))(hpw:∀k,R64 (ps.getD k 0))(hpc:ps.length≤p3)(hy:R64 y)(ht:R64 t)(hs:R64 s):zs_ Tryz.prog 10 [.agg [.sl 1 2 [] 5 0 P.length (some p1),.agg [.int .u64 v.seed,.int .i64 v.process,.int .i64 v.ports,.int .i64 v.look,.int .i64 v.now],.agg [.agg [.int .i64 t,.int .i64 s,.int .i64 q],.int .i64 o,.int .i64 y],.sl 3 4 [] 1 0 cs.length (some p2),.int .i64 d,.int .i64 f],.sl 5 6 [] 1 0 ps.length (some p3)] [.gone,.gone,.ro (.arr P.length 5 (prS P)),.gone,.ro (.arr cs.length 1 (zp_ cs)),.gone,.ro (.arr ps.length 1 (zp_ ps))] (.bool true) [.gone]:=by
 by_cases h1:P.length≤60
 case neg=>
  refine zf_ (fn:=Tryz.f10) 7 210 0 rfl rfl rfl rfl rfl u25_ rfl fun w0 M E hro=>?_
  repeat' (first|refine Ctl.h ?_ |((with_reducible intro hif);first |(focus (cases hif;done)) |((try simp only[JH]at hif);try exact hy_)) |((with_reducible first|apply J22 cGB_ok za_|apply J23 fol cGB_ok za_|apply J24);(·rfl);(· (simp only[push_cast,↓JP,Nat.reduceAdd,Nat.reduceEqDiff,Nat.reduceLT,Nat.reduceMul,Nat.reduceLeDiff,reduceCtorEq,reduceIte,↓JK,cGB,JM,JE,JB,wc_,xv_,rvS,fsS,clP,y0_,sClI,sCl64,sTh14,xc_,sRt18,sSpo,x6_,rBack,rState,rUsed,rGo,rGoQ,rGoR,rGoRQ,x8_,rUsedQ,runP,clP,sFrom,sTh18,wg_,sNewB,sNewG,engP,prP,macP,eB,rB,clA,clB,clC,prO,sr,evS,stS,cRf,sRf,trO,cB,sB,prT,ys_,nilS,z3_,memN,zu_,zt_,zn_,iOf,zb_,xw_,z0_,xl_,yz_,inR,inN,Int.cast_ofNat_Int,h1];rfl));(try kernel_rfl);try exact k180_)|fail)
  apply At.endsRet za_ (fn:=Tryz.f10) (rs:=[.tmp 4]) Anc.refl hro (lb_ rfl) rfl
  ·exact yl_
  ·exact k6_
  ·exact k7_
  ·rfl
  ·exact yw_
  ·exact k9_
  ·exact fun β=>rfl
  ·exact yw_
 by_cases h2:cs.length≤1100
 case neg=>
  refine zf_ (fn:=Tryz.f10) 7 210 0 rfl rfl rfl rfl rfl u25_ rfl fun w0 M E hro=>?_
  repeat' (first|refine Ctl.h ?_ |((with_reducible intro hif);first |(focus (cases hif;done)) |((try simp only[JH]at hif);try exact hy_)) |((with_reducible first|apply J22 cGB_ok za_|apply J23 fol cGB_ok za_|apply J24);(·rfl);(· (simp only[push_cast,↓JP,Nat.reduceAdd,Nat.reduceEqDiff,Nat.reduceLT,Nat.reduceMul,Nat.reduceLeDiff,reduceCtorEq,reduceIte,↓JK,cGB,JM,JE,JB,wc_,xv_,rvS,fsS,clP,y0_,sClI,sCl64,sTh14,xc_,sRt18,sSpo,x6_,rBack,rState,rUsed,rGo,rGoQ,rGoR,rGoRQ,x8_,rUsedQ,runP,clP,sFrom,sTh18,wg_,sNewB,sNewG,engP,prP,macP,eB,rB,clA,clB,clC,prO,sr,evS,stS,cRf,sRf,trO,cB,sB,prT,ys_,nilS,z3_,memN,zu_,zt_,zn_,iOf,zb_,xw_,z0_,xl_,yz_,inR,inN,Int.cast_ofNat_Int,h1,h2];rfl));(try kernel_rfl);try exact k180_)|fail)
  apply At.endsRet za_ (fn:=Tryz.f10) (rs:=[.tmp 4]) Anc.refl hro (lb_ rfl) rfl
  ·exact yl_
  ·exact k6_
  ·exact k7_
  ·rfl
  ·exact yw_
  ·exact k9_
  ·exact fun β=>rfl
  ·exact yw_
 obtain⟨s0,hs0⟩:∃s0,yo_ y t s cs d=s0:=⟨_,rfl⟩
 have hs0':Sta.mk 0 false (begR y t s) cs d []=s0:=hs0
 by_cases hO:yt_ P v s0=0
 case neg=>
  refine zf_ (fn:=Tryz.f10) 7 210 0 rfl rfl rfl rfl rfl u25_ rfl fun w0 M E hro=>?_
  repeat' (first|refine Ctl.h ?_ |((with_reducible intro hif);first |(focus (cases hif;done)) |((try simp only[JH]at hif);try exact hy_)) |((with_reducible first|apply J22 cGB_ok za_|apply J23 fol cGB_ok za_|apply J24);(·rfl);(· (simp only[push_cast,↓JP,Nat.reduceAdd,Nat.reduceEqDiff,Nat.reduceLT,Nat.reduceMul,Nat.reduceLeDiff,reduceCtorEq,reduceIte,↓JK,cGB,JM,JE,JB,wc_,xv_,rvS,fsS,clP,y0_,sClI,sCl64,sTh14,xc_,sRt18,sSpo,x6_,rBack,rState,rUsed,rGo,rGoQ,rGoR,rGoRQ,x8_,rUsedQ,runP,clP,sFrom,sTh18,wg_,sNewB,sNewG,engP,prP,macP,eB,rB,clA,clB,clC,prO,sr,evS,stS,cRf,sRf,trO,cB,sB,prT,ys_,nilS,z3_,memN,zu_,zt_,zn_,iOf,zb_,xw_,z0_,xl_,yz_,inR,inN,Int.cast_ofNat_Int,h1,h2,hs0,hs0',hO];rfl));(try kernel_rfl);try exact k181_)|fail)
  apply At.endsRet za_ (fn:=Tryz.f10) (rs:=[.tmp 4]) Anc.refl hro (lb_ rfl) rfl
  ·exact yl_
  ·exact k6_
  ·exact k7_
  ·rfl
  ·exact yw_
  ·exact k9_
  ·exact fun β=>rfl
  ·exact yw_
 have hO2:=openE_zero hO
 have hP:PG P:=⟨hok,hO2.1⟩
 have V:=VOk.of hO2.2.1
 have hG:FG P s0:=⟨SG.of hO2.2.2 (by rw[←hs0];simp[yo_]),by rw[←hs0];exact begR_R hy ht hs,by rw[←hs0];exact hw,by rw[←hs0];simp[yo_]⟩
 have hcs:s0.cells=cs:=by rw[←hs0];rfl
 have hss:s0.sends=[]:=by rw[←hs0];rfl
 refine zf_ (fn:=Tryz.f10) 7 210 0 rfl rfl rfl rfl rfl u25_ rfl fun w0 M E hro=>?_
 repeat' (first|refine Ctl.h ?_ |((with_reducible intro hif);first |(focus (cases hif;done)) |((try simp only[JH]at hif);try exact hy_)) |((with_reducible first|apply J22 cGG_ok za_|apply J23 fol cGG_ok za_|apply J24);(·rfl);(· (simp only[push_cast,↓JP,Nat.reduceAdd,Nat.reduceEqDiff,Nat.reduceLT,Nat.reduceMul,Nat.reduceLeDiff,reduceCtorEq,reduceIte,↓JK,cGG,JM,JE,JB,wc_,xv_,rvS,fsS,clP,y0_,sClI,sCl64,sTh14,xc_,sRt18,sSpo,x6_,rBack,rState,rUsed,rGo,rGoQ,rGoR,rGoRQ,x8_,rUsedQ,runP,clP,sFrom,sTh18,wg_,sNewB,sNewG,engP,prP,macP,eB,rB,clA,clB,clC,prO,sr,evS,stS,cRf,sRf,trO,cB,sB,prT,ys_,nilS,z3_,memN,zu_,zt_,zn_,iOf,zb_,xw_,z0_,xl_,yz_,inR,inN,Int.cast_ofNat_Int,h1,h2,hs0,hs0',(eq_true hO)];rfl));(try kernel_rfl);try exact k181_)|fail)
 refine WF.loopAt (fun (z:ZP)=>z.j≤P.length∧z.l.length=P.length) (fun (z:ZP)=>[(1,.sl 5 6 [] 1 0 ps.length (some p3)),(5,.sl 8 8 [] 5 0 P.length none),(6,.sl 9 9 [] 1 0 cs.length none),(7,.ptr 10 []),(9,.sl 21 21 [] 5 0 P.length none),(10,.ptr 22 []),(11,.ptr 24 []),(92,.nat .i64 P.length),(93,.nat .i64 z.j)]) (fun (z:ZP)=>[.gone,.gone,.gone,.gone,.gone,.gone,.ro (.arr ps.length 1 (zp_ ps)),.gone,.own 38 (.arr P.length 5 (prS z.l)) false,.own 2 (.arr cs.length 1 (zp_ cs)) false,rB 11 16 17 18 0 false,eB 12 15 P.length,mB s0 v Ins0 13 14,cB s0,sB s0,prO P,clA 19 P.length,clB v,clC s0 20,prO P,cB s0,prT P,.own 102 (.agg [.int .u64 v.seed,.int .i64 v.process,.int .i64 v.ports,.int .i64 v.look,.int .i64 v.now]) true,cRf cs,.own 105 (.agg [.nat .i64 0,.bool false,.arr 8 1 (fun j=>.int .i64 (begR y t s j)),.sl 23 23 [] 1 0 cs.length none,.int .i64 d,.sl 0 0 [] 0 0 0 (some 0)]) true]) (fun (z:ZP)=>P.length - z.j) ⟨0,P⟩ ⟨Nat.zero_le _,rfl⟩ ?_ ?_ rfl ?_ ?_ rfl ?_
 ·exact we_
 ·exact k7_
 ·exact yw_
 ·exact yw_
 rintro⟨j,l⟩ ⟨hj,hl⟩
 dsimp only at hj hl ⊢
 by_cases hjl:j < P.length
 ·repeat' (first|refine Ctl.h ?_ |((with_reducible intro hif);first |(focus (cases hif;done)) |((try simp only[JH]at hif);try exact hy_)) |((with_reducible first|apply J22 cGG_ok za_|apply J23 fol cGG_ok za_|apply J24);(·rfl);(· (simp only[push_cast,↓JP,Nat.reduceAdd,Nat.reduceEqDiff,Nat.reduceLT,Nat.reduceMul,Nat.reduceLeDiff,reduceCtorEq,reduceIte,↓JK,hjl,prS,yu_,inR,inN];rfl));(try kernel_rfl);try exact k15_)|fail)
  refine At.nextPick [0,1,2,3,4,5,6,7,8,9,10,11,12,13,14,15,16,17,18,19,20,21,22,23,24] ⟨j+1,l.set j ⟨0,0,0,0,0⟩⟩ ?_ rfl rfl rfl ?_ rfl ?_ ?_ ?_ rfl
  ·exact⟨⟨hjl,by rw[List.length_set];exact hl⟩,by show P.length - (j+1) < P.length - j;omega⟩
  ·(repeat' (first|exact trivial|exact .inl rfl|exact .inr (.same _)|exact .inr .loose|exact .inr (.arr (by assumption))|apply And.intro |(refine .inr (less_pset hl hjl (fun β q=>?_));rw[xk_];cases decide (q=j)<;>rfl)))
  ·exact yw_
  ·exact k32_
  ·exact yw_
 obtain rfl:j=P.length:=by omega
 obtain⟨K,hK⟩:∃K,min ps.length 12=K:=⟨_,rfl⟩
 have hK1:K≤ps.length:=by omega
 have hK2:K≤12:=by omega
 repeat' (first|refine Ctl.h ?_ |((with_reducible intro hif);first |(focus (cases hif;done)) |((try simp only[JH]at hif);try exact hy_)) |((with_reducible first|apply J22 cGG_ok za_|apply J23 fol cGG_ok za_|apply J24);(·rfl);(· (simp only[push_cast,↓JP,Nat.reduceAdd,Nat.reduceEqDiff,Nat.reduceLT,Nat.reduceMul,Nat.reduceLeDiff,reduceCtorEq,reduceIte,↓JK,cGG,JM,JE,JB,wc_,xv_,rvS,fsS,clP,y0_,sClI,sCl64,sTh14,xc_,sRt18,sSpo,x6_,rBack,rState,rUsed,rGo,rGoQ,rGoR,rGoRQ,x8_,rUsedQ,runP,clP,sFrom,sTh18,wg_,sNewB,sNewG,engP,prP,macP,eB,rB,clA,clB,clC,prO,sr,evS,stS,cRf,sRf,trO,cB,sB,prT,ys_,nilS,z3_,memN,zu_,zt_,zn_,iOf,zb_,xw_,z0_,xl_,yz_,inR,inN,Int.cast_ofNat_Int,hjl,hK,Nat.sub_zero];rfl));(try kernel_rfl);try exact k180_)|fail)
 refine WF.nilInS s0.sends hss 177 25 105 (.agg [.nat .i64 0, .bool false, .arr 8 1 (fun j => .int .i64 (begR y t s j)), .sl 23 23 [] 1 0 cs.length none, .int .i64 d, .sl 0 0 [] 0 0 0 (some 0)]) (.agg [.int .i64 s0.at_, .bool s0.ended, .arr 8 1 (fun q => .int .i64 (s0.regs q)), .sl 23 23 [] 1 0 cs.length none, .int .i64 s0.draws, .sl 27 27 [] 3 0 s0.sends.length none]) true rfl (fun β b0 hβ=>by
   have e:=nilB_cl b0 (show β 27=(none,0) from hβ) 3
   simp only[←hs0',SV.cl,SV.den,denL,List.length_nil]at e ⊢
   rw[e]
   rfl) (fun h hb=>by
   have k23:=hb 23 (show (23:Nat)≤27 by decide)
   have kn:=hb 27 (show (27:Nat)≤27 by decide)
   simp[zc_,ze_,k23,kn]) rfl (fun n k f e=>by cases e) (fun n k f e=>by cases e) rfl ?_
 simp only[setH,List.cons_append,List.nil_append]
 refine WF.empty 2 1 (zp_ []) (fun _ q=>yy_ q) ?_
 simp only[List.cons_append,List.nil_append]
 refine WF.loopAt (fun (z:ZG)=>GInv P cs K z) (fun (z:ZG)=>[(7,.ptr 10 []),(9,.sl 21 21 [] 5 0 P.length none),(10,.ptr 22 []),(11,.ptr 24 []),(14,.ptr 25 []),(15,.nat .i64 z.u),(16,.bool z.w),(108,.sl 26 6 [] 1 0 K none),(109,.nat .i64 K),(110,.nat .i64 z.j)]) (fun (z:ZG)=>[.gone,.gone,.gone,.gone,.gone,.gone,.ro (.arr ps.length 1 (zp_ ps)),.gone,.gone,.gone,rB 11 16 17 18 z.u z.w,eB 12 15 P.length,mB z.s v z.x 13 14,cB z.s,sB z.s,prO P,clA 19 P.length,clB v,clC s0 20,prO P,cB s0,prT P,.own 102 (.agg [.int .u64 v.seed,.int .i64 v.process,.int .i64 v.ports,.int .i64 v.look,.int .i64 v.now]) true,cRf cs,.own 105 (.agg [.nat .i64 0,.bool false,.arr 8 1 (fun j=>.int .i64 (begR y t s j)),.sl 23 23 [] 1 0 cs.length none,.int .i64 d,.sl 0 0 [] 0 0 0 (some 0)]) true,.own 105 (.agg [.int .i64 z.s.at_,.bool z.s.ended,.arr 8 1 (fun q=>.int .i64 (z.s.regs q)),SV.ite z.fc (.sl 28 28 [] 1 0 z.s.cells.length none) (.sl 23 23 [] 1 0 cs.length none),.int .i64 z.s.draws,.sl 27 27 [] 3 0 z.s.sends.length none]) true,.gone,sRf z.s.sends,cRf (bif z.fc then z.s.cells else [])]) (fun (z:ZG)=>K - z.j) ⟨0,s0,Ins0,0,false,false⟩ ⟨Nat.zero_le _,hG,Nat.zero_le _,fun _=>hcs,congrArg List.length hcs⟩ ?_ ?_ rfl ?_ ?_ rfl ?_
 ·exact we_
 ·exact k7_
 ·exact yw_
 ·exact yw_
 rintro⟨j,⟨at1,en,rg,ce,dr,se⟩,x,u,w,fc⟩ ⟨hjK,hg,hu,hc,hl⟩
 dsimp only at hjK hg hu hc hl
 by_cases hjk:j < K
 case neg=>
  obtain rfl:j=K:=by omega
  repeat' (first|refine Ctl.h ?_ |((with_reducible intro hif);first |(focus (cases hif;done)) |((try simp only[JH]at hif);try exact hy_)) |((with_reducible first|apply J22 cGS_ok za_|apply J23 fol cGS_ok za_|apply J24);(·rfl);(· (simp only[push_cast,↓JP,Nat.reduceAdd,Nat.reduceEqDiff,Nat.reduceLT,Nat.reduceMul,Nat.reduceLeDiff,reduceCtorEq,reduceIte,↓JK,cGS,JM,JE,JB,wc_,xv_,rvS,fsS,clP,y0_,sClI,sCl64,sTh14,xc_,sRt18,sSpo,x6_,rBack,rState,rUsed,rGo,rGoQ,rGoR,rGoRQ,x8_,rUsedQ,runP,clP,sFrom,sTh18,wg_,sNewB,sNewG,engP,prP,macP,eB,rB,clA,clB,clC,prO,sr,evS,stS,cRf,sRf,trO,cB,sB,prT,ys_,nilS,z3_,memN,zu_,zt_,zn_,iOf,zb_,xw_,z0_,xl_,yz_,inR,inN,Int.cast_ofNat_Int,hjk];rfl));(try kernel_rfl);try exact k180_)|fail)
  apply At.endsRet za_ (fn:=Tryz.f10) (rs:=[.tmp 4]) Anc.refl hro (lb_ rfl) rfl
  ·exact yl_
  ·exact k6_
  ·exact k7_
  ·rfl
  ·exact yw_
  ·exact k9_
  ·exact fun β=>rfl
  ·exact yw_
 obtain⟨n,hn⟩:∃n,ps.getD j 0=n:=⟨_,rfl⟩
 have hnR:R64 n:=hn ▸ hpw j
 iterate 16 (try (first|refine Ctl.h ?_ |((with_reducible intro hif);first |(focus (cases hif;done)) |((try simp only[JH]at hif);try exact hy_)) |((with_reducible first|apply J22 cGS_ok za_|apply J23 fol cGS_ok za_|apply J24);(·rfl);(· (simp only[push_cast,↓JP,Nat.reduceAdd,Nat.reduceEqDiff,Nat.reduceLT,Nat.reduceMul,Nat.reduceLeDiff,reduceCtorEq,reduceIte,↓JK,cGS,JM,JE,JB,wc_,xv_,rvS,fsS,clP,y0_,sClI,sCl64,sTh14,xc_,sRt18,sSpo,x6_,rBack,rState,rUsed,rGo,rGoQ,rGoR,rGoRQ,x8_,rUsedQ,runP,clP,sFrom,sTh18,wg_,sNewB,sNewG,engP,prP,macP,eB,rB,clA,clB,clC,prO,sr,evS,stS,cRf,sRf,trO,cB,sB,prT,ys_,nilS,z3_,memN,zu_,zt_,zn_,iOf,zb_,xw_,z0_,xl_,yz_,inR,inN,Int.cast_ofNat_Int,hjk,hn,zp_];rfl));(try kernel_rfl);try exact k180_)|fail))
 any_goals (intro (h:true=false);cases h)
 refine WF.seqJoin (fun _:Unit=>¬(n < 0∧-3 < n)) (fun _=>[(7,.ptr 10 []),(9,.sl 21 21 [] 5 0 P.length none),(10,.ptr 22 []),(11,.ptr 24 []),(14,.ptr 25 []),(15,.nat .i64 u),(16,.bool w),(18,.int .i64 n),(108,.sl 26 6 [] 1 0 K none),(109,.nat .i64 K),(110,.nat .i64 j)]) (fun _=>[.gone,.gone,.gone,.gone,.gone,.gone,.ro (.arr ps.length 1 (zp_ ps)),.gone,.gone,.gone,rB 11 16 17 18 u w,eB 12 15 P.length,mB (⟨at1,en,rg,ce,dr,se⟩:Sta) v x 13 14,cB (⟨at1,en,rg,ce,dr,se⟩:Sta),sB (⟨at1,en,rg,ce,dr,se⟩:Sta),prO P,clA 19 P.length,clB v,clC s0 20,prO P,cB s0,prT P,.own 102 (.agg [.int .u64 v.seed,.int .i64 v.process,.int .i64 v.ports,.int .i64 v.look,.int .i64 v.now]) true,cRf cs,.own 105 (.agg [.nat .i64 0,.bool false,.arr 8 1 (fun j=>.int .i64 (begR y t s j)),.sl 23 23 [] 1 0 cs.length none,.int .i64 d,.sl 0 0 [] 0 0 0 (some 0)]) true,.own 105 (.agg [.int .i64 (⟨at1,en,rg,ce,dr,se⟩:Sta).at_,.bool (⟨at1,en,rg,ce,dr,se⟩:Sta).ended,.arr 8 1 (fun q=>.int .i64 ((⟨at1,en,rg,ce,dr,se⟩:Sta).regs q)),SV.ite fc (.sl 28 28 [] 1 0 (⟨at1,en,rg,ce,dr,se⟩:Sta).cells.length none) (.sl 23 23 [] 1 0 cs.length none),.int .i64 (⟨at1,en,rg,ce,dr,se⟩:Sta).draws,.sl 27 27 [] 3 0 (⟨at1,en,rg,ce,dr,se⟩:Sta).sends.length none]) true,.gone,sRf (⟨at1,en,rg,ce,dr,se⟩:Sta).sends,cRf (bif fc then(⟨at1,en,rg,ce,dr,se⟩:Sta).cells else [])]) ?_ ?_
 ·by_cases hb1:n < 0
  ·by_cases hb2:-3 < n
   ·have hs0e:(⟨s0.at_,s0.ended,s0.regs,s0.cells,s0.draws,[]⟩:Sta)=s0:=by rw[←hs0];rfl
    have hcl0:s0.cells.length≤1000000:=by rw[hcs];omega
    have hsl0:s0.sends.length≤1000000:=by rw[hss];exact Nat.zero_le _
    have hcl1:cs.length≤1000000:=by omega
    have hsm:sameB s0 ⟨s0.at_,s0.ended,fun q=>s0.regs q,cs,s0.draws,s0.sends⟩=true:=by rw[←hcs];exact same_refl s0
    cases fc
    all_goals
     repeat' (first|refine Ctl.h ?_ |((with_reducible intro hif);first |(focus (cases hif;done)) |((try simp only[JH]at hif);try exact hy_)) |((with_reducible first|apply J22 cGS_ok za_|apply J23 fol cGS_ok za_|apply J24);(·rfl);(· (simp only[push_cast,↓JP,Nat.reduceAdd,Nat.reduceEqDiff,Nat.reduceLT,Nat.reduceMul,Nat.reduceLeDiff,reduceCtorEq,reduceIte,↓JK,cGS,JM,JE,JB,wc_,xv_,rvS,fsS,clP,y0_,sClI,sCl64,sTh14,xc_,sRt18,sSpo,x6_,rBack,rState,rUsed,rGo,rGoQ,rGoR,rGoRQ,x8_,rUsedQ,runP,clP,sFrom,sTh18,wg_,sNewB,sNewG,engP,prP,macP,eB,rB,clA,clB,clC,prO,sr,evS,stS,cRf,sRf,trO,cB,sB,prT,ys_,nilS,z3_,memN,zu_,zt_,zn_,iOf,zb_,xw_,z0_,xl_,yz_,inR,inN,Int.cast_ofNat_Int,(eq_true hb1),(eq_true hb2),hs0e];rfl));(try kernel_rfl);try exact k180_)|fail)
     refine WF.nilInS s0.sends hss 177 25 105 (.agg [.nat .i64 0, .bool false, .arr 8 1 (fun j => .int .i64 (begR y t s j)), .sl 23 23 [] 1 0 cs.length none, .int .i64 d, .sl 0 0 [] 0 0 0 (some 0)]) (.agg [.int .i64 s0.at_, .bool s0.ended, .arr 8 1 (fun q => .int .i64 (s0.regs q)), .sl 23 23 [] 1 0 cs.length none, .int .i64 s0.draws, .sl 34 34 [] 3 0 s0.sends.length none]) true rfl (fun β b0 hβ=>by
       have e:=nilB_cl b0 (show β 34=(none,0) from hβ) 3
       simp only[←hs0',SV.cl,SV.den,denL,List.length_nil]at e ⊢
       rw[e]
       rfl) (fun h hb=>by
       have k23:=hb 23 (show (23:Nat)≤34 by decide)
       have kn:=hb 34 (show (34:Nat)≤34 by decide)
       simp[zc_,ze_,k23,kn]) rfl (fun n k f e=>by cases e) (fun n k f e=>by cases e) rfl ?_
     simp only[setH,List.cons_append,List.nil_append]
     refine WF.empty 2 1 (zp_ []) (fun _ q=>yy_ q) ?_
     simp only[List.cons_append,List.nil_append]
     repeat' (first|refine Ctl.h ?_ |((with_reducible intro hif);first |(focus (cases hif;done)) |((try simp only[JH]at hif);try exact hy_)) |((with_reducible first|apply J22 cGG_ok za_|apply J23 fol cGG_ok za_|apply J24);(·rfl);(· (simp only[push_cast,↓JP,Nat.reduceAdd,Nat.reduceEqDiff,Nat.reduceLT,Nat.reduceMul,Nat.reduceLeDiff,reduceCtorEq,reduceIte,↓JK,cGG,JM,JE,JB,wc_,xv_,rvS,fsS,clP,y0_,sClI,sCl64,sTh14,xc_,sRt18,sSpo,x6_,rBack,rState,rUsed,rGo,rGoQ,rGoR,rGoRQ,x8_,rUsedQ,runP,clP,sFrom,sTh18,wg_,sNewB,sNewG,engP,prP,macP,eB,rB,clA,clB,clC,prO,sr,evS,stS,cRf,sRf,trO,cB,sB,prT,ys_,nilS,z3_,memN,zu_,zt_,zn_,iOf,zb_,xw_,z0_,xl_,yz_,inR,inN,Int.cast_ofNat_Int,hs0e,hsm];rfl));(try kernel_rfl);try exact k180_)|fail)
     refine At.nextPick [0,1,2,3,4,5,6,7,8,9,10,29,30,31,32,33,16,17,18,19,20,21,22,23,24,25,26,34,35] ⟨j+1,s0,Ins0,0,false,false⟩ ?_ rfl rfl rfl ?_ rfl ?_ ?_ ?_ rfl
     ·exact⟨⟨hjk,hG,Nat.zero_le _,fun _=>hcs,congrArg List.length hcs⟩,by show K - (j+1) < K - j;omega⟩
     ·exact k40_
     ·exact yw_
     ·exact k32_
     ·exact yw_
   ·skip
    repeat' (first|refine Ctl.h ?_ |((with_reducible intro hif);first |(focus (cases hif;done)) |((try simp only[JH]at hif);try exact hy_)) |((with_reducible first|apply J22 cGS_ok za_|apply J23 fol cGS_ok za_|apply J24);(·rfl);(· (simp only[push_cast,↓JP,Nat.reduceAdd,Nat.reduceEqDiff,Nat.reduceLT,Nat.reduceMul,Nat.reduceLeDiff,reduceCtorEq,reduceIte,↓JK,cGS,JM,JE,JB,wc_,xv_,rvS,fsS,clP,y0_,sClI,sCl64,sTh14,xc_,sRt18,sSpo,x6_,rBack,rState,rUsed,rGo,rGoQ,rGoR,rGoRQ,x8_,rUsedQ,runP,clP,sFrom,sTh18,wg_,sNewB,sNewG,engP,prP,macP,eB,rB,clA,clB,clC,prO,sr,evS,stS,cRf,sRf,trO,cB,sB,prT,ys_,nilS,z3_,memN,zu_,zt_,zn_,iOf,zb_,xw_,z0_,xl_,yz_,inR,inN,Int.cast_ofNat_Int,(eq_true hb1),hb2];rfl));(try kernel_rfl);try exact k180_)|fail)
    refine At.join () ?_ ?_ ?_ rfl ?_ ?_ rfl
    ·exact fun h=>hb2 h.2
    ·exact we_
    ·exact k7_
    ·exact yw_
    ·exact yw_
  ·skip
   repeat' (first|refine Ctl.h ?_ |((with_reducible intro hif);first |(focus (cases hif;done)) |((try simp only[JH]at hif);try exact hy_)) |((with_reducible first|apply J22 cGS_ok za_|apply J23 fol cGS_ok za_|apply J24);(·rfl);(· (simp only[push_cast,↓JP,Nat.reduceAdd,Nat.reduceEqDiff,Nat.reduceLT,Nat.reduceMul,Nat.reduceLeDiff,reduceCtorEq,reduceIte,↓JK,cGS,JM,JE,JB,wc_,xv_,rvS,fsS,clP,y0_,sClI,sCl64,sTh14,xc_,sRt18,sSpo,x6_,rBack,rState,rUsed,rGo,rGoQ,rGoR,rGoRQ,x8_,rUsedQ,runP,clP,sFrom,sTh18,wg_,sNewB,sNewG,engP,prP,macP,eB,rB,clA,clB,clC,prO,sr,evS,stS,cRf,sRf,trO,cB,sB,prT,ys_,nilS,z3_,memN,zu_,zt_,zn_,iOf,zb_,xw_,z0_,xl_,yz_,inR,inN,Int.cast_ofNat_Int,hb1];rfl));(try kernel_rfl);try exact k180_)|fail)
   refine At.join () ?_ ?_ ?_ rfl ?_ ?_ rfl
   ·exact fun h=>hb1 h.1
   ·exact we_
   ·exact k7_
   ·exact yw_
   ·exact yw_
 rintro _ hnb
 refine WF.seqJoin (fun N:Int=>0≤N∧(N≤600∨4096 < N)) (fun N=>[(7,.ptr 10 []),(9,.sl 21 21 [] 5 0 P.length none),(10,.ptr 22 []),(11,.ptr 24 []),(14,.ptr 25 []),(15,.nat .i64 u),(16,.bool w),(18,.int .i64 N),(108,.sl 26 6 [] 1 0 K none),(109,.nat .i64 K),(110,.nat .i64 j)]) (fun _=>[.gone,.gone,.gone,.gone,.gone,.gone,.ro (.arr ps.length 1 (zp_ ps)),.gone,.gone,.gone,rB 11 16 17 18 u w,eB 12 15 P.length,mB (⟨at1,en,rg,ce,dr,se⟩:Sta) v x 13 14,cB (⟨at1,en,rg,ce,dr,se⟩:Sta),sB (⟨at1,en,rg,ce,dr,se⟩:Sta),prO P,clA 19 P.length,clB v,clC s0 20,prO P,cB s0,prT P,.own 102 (.agg [.int .u64 v.seed,.int .i64 v.process,.int .i64 v.ports,.int .i64 v.look,.int .i64 v.now]) true,cRf cs,.own 105 (.agg [.nat .i64 0,.bool false,.arr 8 1 (fun j=>.int .i64 (begR y t s j)),.sl 23 23 [] 1 0 cs.length none,.int .i64 d,.sl 0 0 [] 0 0 0 (some 0)]) true,.own 105 (.agg [.int .i64 (⟨at1,en,rg,ce,dr,se⟩:Sta).at_,.bool (⟨at1,en,rg,ce,dr,se⟩:Sta).ended,.arr 8 1 (fun q=>.int .i64 ((⟨at1,en,rg,ce,dr,se⟩:Sta).regs q)),SV.ite fc (.sl 28 28 [] 1 0 (⟨at1,en,rg,ce,dr,se⟩:Sta).cells.length none) (.sl 23 23 [] 1 0 cs.length none),.int .i64 (⟨at1,en,rg,ce,dr,se⟩:Sta).draws,.sl 27 27 [] 3 0 (⟨at1,en,rg,ce,dr,se⟩:Sta).sends.length none]) true,.gone,sRf (⟨at1,en,rg,ce,dr,se⟩:Sta).sends,cRf (bif fc then(⟨at1,en,rg,ce,dr,se⟩:Sta).cells else [])]) ?_ ?_
 ·by_cases a1:n < 0
  ·skip
   repeat' (first|refine Ctl.h ?_ |((with_reducible intro hif);first |(focus (cases hif;done)) |((try simp only[JH]at hif);try exact hy_)) |((with_reducible first|apply J22 cGS_ok za_|apply J23 fol cGS_ok za_|apply J24);(·rfl);(· (simp only[push_cast,↓JP,Nat.reduceAdd,Nat.reduceEqDiff,Nat.reduceLT,Nat.reduceMul,Nat.reduceLeDiff,reduceCtorEq,reduceIte,↓JK,cGS,JM,JE,JB,wc_,xv_,rvS,fsS,clP,y0_,sClI,sCl64,sTh14,xc_,sRt18,sSpo,x6_,rBack,rState,rUsed,rGo,rGoQ,rGoR,rGoRQ,x8_,rUsedQ,runP,clP,sFrom,sTh18,wg_,sNewB,sNewG,engP,prP,macP,eB,rB,clA,clB,clC,prO,sr,evS,stS,cRf,sRf,trO,cB,sB,prT,ys_,nilS,z3_,memN,zu_,zt_,zn_,iOf,zb_,xw_,z0_,xl_,yz_,inR,inN,Int.cast_ofNat_Int,(eq_true a1)];rfl));(try kernel_rfl);try exact k180_)|fail)
   refine At.nextPick [0,1,2,3,4,5,6,7,8,9,10,11,12,13,14,15,16,17,18,19,20,21,22,23,24,25,26,27,28] 300 ?_ rfl rfl rfl ?_ rfl ?_ ?_ ?_ rfl
   ·exact⟨by decide,.inl (by decide)⟩
   ·exact k175_
   ·exact yw_
   ·exact k32_
   ·exact yw_
  ·by_cases a2:600 < n
   ·by_cases a3:n≤4096
    ·skip
     repeat' (first|refine Ctl.h ?_ |((with_reducible intro hif);first |(focus (cases hif;done)) |((try simp only[JH]at hif);try exact hy_)) |((with_reducible first|apply J22 cGS_ok za_|apply J23 fol cGS_ok za_|apply J24);(·rfl);(· (simp only[push_cast,↓JP,Nat.reduceAdd,Nat.reduceEqDiff,Nat.reduceLT,Nat.reduceMul,Nat.reduceLeDiff,reduceCtorEq,reduceIte,↓JK,cGS,JM,JE,JB,wc_,xv_,rvS,fsS,clP,y0_,sClI,sCl64,sTh14,xc_,sRt18,sSpo,x6_,rBack,rState,rUsed,rGo,rGoQ,rGoR,rGoRQ,x8_,rUsedQ,runP,clP,sFrom,sTh18,wg_,sNewB,sNewG,engP,prP,macP,eB,rB,clA,clB,clC,prO,sr,evS,stS,cRf,sRf,trO,cB,sB,prT,ys_,nilS,z3_,memN,zu_,zt_,zn_,iOf,zb_,xw_,z0_,xl_,yz_,inR,inN,Int.cast_ofNat_Int,a1,(eq_true a2),(eq_true a3)];rfl));(try kernel_rfl);try exact k180_)|fail)
     refine At.nextPick [0,1,2,3,4,5,6,7,8,9,10,11,12,13,14,15,16,17,18,19,20,21,22,23,24,25,26,27,28] 300 ?_ rfl rfl rfl ?_ rfl ?_ ?_ ?_ rfl
     ·exact⟨by decide,.inl (by decide)⟩
     ·exact k175_
     ·exact yw_
     ·exact k32_
     ·exact yw_
    ·skip
     repeat' (first|refine Ctl.h ?_ |((with_reducible intro hif);first |(focus (cases hif;done)) |((try simp only[JH]at hif);try exact hy_)) |((with_reducible first|apply J22 cGS_ok za_|apply J23 fol cGS_ok za_|apply J24);(·rfl);(· (simp only[push_cast,↓JP,Nat.reduceAdd,Nat.reduceEqDiff,Nat.reduceLT,Nat.reduceMul,Nat.reduceLeDiff,reduceCtorEq,reduceIte,↓JK,cGS,JM,JE,JB,wc_,xv_,rvS,fsS,clP,y0_,sClI,sCl64,sTh14,xc_,sRt18,sSpo,x6_,rBack,rState,rUsed,rGo,rGoQ,rGoR,rGoRQ,x8_,rUsedQ,runP,clP,sFrom,sTh18,wg_,sNewB,sNewG,engP,prP,macP,eB,rB,clA,clB,clC,prO,sr,evS,stS,cRf,sRf,trO,cB,sB,prT,ys_,nilS,z3_,memN,zu_,zt_,zn_,iOf,zb_,xw_,z0_,xl_,yz_,inR,inN,Int.cast_ofNat_Int,a1,(eq_true a2),a3];rfl));(try kernel_rfl);try exact k180_)|fail)
     refine At.join n ?_ ?_ ?_ rfl ?_ ?_ rfl
     ·exact⟨by omega,.inr (by omega)⟩
     ·exact we_
     ·exact k7_
     ·exact yw_
     ·exact yw_
   ·skip
    repeat' (first|refine Ctl.h ?_ |((with_reducible intro hif);first |(focus (cases hif;done)) |((try simp only[JH]at hif);try exact hy_)) |((with_reducible first|apply J22 cGS_ok za_|apply J23 fol cGS_ok za_|apply J24);(·rfl);(· (simp only[push_cast,↓JP,Nat.reduceAdd,Nat.reduceEqDiff,Nat.reduceLT,Nat.reduceMul,Nat.reduceLeDiff,reduceCtorEq,reduceIte,↓JK,cGS,JM,JE,JB,wc_,xv_,rvS,fsS,clP,y0_,sClI,sCl64,sTh14,xc_,sRt18,sSpo,x6_,rBack,rState,rUsed,rGo,rGoQ,rGoR,rGoRQ,x8_,rUsedQ,runP,clP,sFrom,sTh18,wg_,sNewB,sNewG,engP,prP,macP,eB,rB,clA,clB,clC,prO,sr,evS,stS,cRf,sRf,trO,cB,sB,prT,ys_,nilS,z3_,memN,zu_,zt_,zn_,iOf,zb_,xw_,z0_,xl_,yz_,inR,inN,Int.cast_ofNat_Int,a1,a2];rfl));(try kernel_rfl);try exact k180_)|fail)
    refine At.join n ?_ ?_ ?_ rfl ?_ ?_ rfl
    ·exact⟨by omega,.inl (by omega)⟩
    ·exact we_
    ·exact k7_
    ·exact yw_
    ·exact yw_
 rintro N ⟨hN0,hN1⟩
 by_cases hN:4096 < N
 ·have hrr:rrE N≠0:=by unfold rrE;rw[if_pos (.inr hN)];decide
  repeat' (first|refine Ctl.h ?_ |((with_reducible intro hif);first |(focus (cases hif;done)) |((try simp only[JH]at hif);try exact hy_)) |((with_reducible first|apply J22 cGR_ok za_|apply J23 fol cGR_ok za_|apply J24);(·rfl);(· (simp only[push_cast,↓JP,Nat.reduceAdd,Nat.reduceEqDiff,Nat.reduceLT,Nat.reduceMul,Nat.reduceLeDiff,reduceCtorEq,reduceIte,↓JK,cGR,JM,JE,JB,wc_,xv_,rvS,fsS,clP,y0_,sClI,sCl64,sTh14,xc_,sRt18,sSpo,x6_,rBack,rState,rUsed,rGo,rGoQ,rGoR,rGoRQ,x8_,rUsedQ,runP,clP,sFrom,sTh18,wg_,sNewB,sNewG,engP,prP,macP,eB,rB,clA,clB,clC,prO,sr,evS,stS,cRf,sRf,trO,cB,sB,prT,ys_,nilS,z3_,memN,zu_,zt_,zn_,iOf,zb_,xw_,z0_,xl_,yz_,inR,inN,Int.cast_ofNat_Int,(eq_true hN)];rfl));(try kernel_rfl);try exact k180_)|fail)
  refine At.next ⟨j+1,⟨at1,en,rg,ce,dr,se⟩,x,u,w,fc⟩ ?_ ?_ ?_ rfl ?_ ?_ rfl
  ·exact⟨⟨hjk,hg,Nat.le_trans hu (Nat.mul_le_mul_left 600 (Nat.le_succ j)),hc,hl⟩,by show K - (j+1) < K - j;omega⟩
  ·exact we_
  ·exact k7_
  ·exact yw_
  ·exact yw_
 have hsg:=hg.sg
 have hN4:N≤4096:=by omega
 have hN5:N≤1000000:=by omega
 obtain⟨R,hR⟩:∃R,xq_ P v N.toNat ⟨at1,en,rg,ce,dr,se⟩ Ins0 [] at1=R:=⟨_,rfl⟩
 obtain⟨T,hT⟩:∃T,xq_ P v N.toNat ⟨at1,en,rg,ce,dr,se⟩ x [] 0=T:=⟨_,rfl⟩
 obtain⟨B,hB⟩:∃B,runB P v N.toNat ⟨at1,en,rg,ce,dr,se⟩ false false=B:=⟨_,rfl⟩
 have hI:=runA_ind (P:=P) (v:=v) N.toNat ⟨at1,en,rg,ce,dr,se⟩ x Ins0 [] 0 at1
 have hG2:=runA_FG hP V N.toNat ⟨at1,en,rg,ce,dr,se⟩ Ins0 [] at1 hg
 have hle:=(runA_le (P:=P) (v:=v) N.toNat ⟨at1,en,rg,ce,dr,se⟩ Ins0 [] at1).2
 have hF:=runA_fc (P:=P) (v:=v) (s0:=⟨at1,en,rg,ce,dr,se⟩) N.toNat ⟨at1,en,rg,ce,dr,se⟩ Ins0 [] at1 false false (fun _=>rfl) (fun _=>rfl)
 rw[hR,hT]at hI
 rw[hR]at hG2 hle
 rw[hR,hB]at hF
 obtain⟨tr,ra,rb,⟨at2,en2,rg2,ce2,dr2,se2⟩,rx⟩:=R
 obtain⟨tr',ra',rb',s2',x2⟩:=T
 dsimp only at hI
 obtain⟨rfl,rfl,rfl⟩:=hI
 obtain⟨hg2,hl2⟩:=hG2
 obtain⟨b1,b2⟩:=B
 dsimp only[List.length_nil]at hg2 hl2 hle hF
 have htl:tr.length≤1000000:=by omega
 have hu9:u≤4611686018427387904:=by omega
 obtain⟨un,hun⟩:∃un,(bif w then u else u+tr.length)=un:=⟨_,rfl⟩
 obtain⟨wn,hwn⟩:∃wn,(bif w then true else(decide (rb≠0) && decide (rb≠190)))=wn:=⟨_,rfl⟩
 obtain⟨dn,hdn⟩:∃dn,decide (rb=0)=dn:=⟨_,rfl⟩
 obtain⟨eb,heb⟩:∃eb,(if rb=190 then 0 else rb)=eb:=⟨_,rfl⟩
 have hnN:¬4096 < N:=hN
 repeat' (first|refine Ctl.h ?_ |((with_reducible intro hif);first |(focus (cases hif;done)) |((try simp only[JH]at hif);try exact hy_)) |((with_reducible first|apply J22 cGS_ok za_|apply J23 fol cGS_ok za_|apply J24);(·rfl);(· (simp only[push_cast,↓JP,Nat.reduceAdd,Nat.reduceEqDiff,Nat.reduceLT,Nat.reduceMul,Nat.reduceLeDiff,reduceCtorEq,reduceIte,↓JK,cGS,JM,JE,JB,wc_,xv_,rvS,fsS,clP,y0_,sClI,sCl64,sTh14,xc_,sRt18,sSpo,x6_,rBack,rState,rUsed,rGo,rGoQ,rGoR,rGoRQ,x8_,rUsedQ,runP,clP,sFrom,sTh18,wg_,sNewB,sNewG,engP,prP,macP,eB,rB,clA,clB,clC,prO,sr,evS,stS,cRf,sRf,trO,cB,sB,prT,ys_,nilS,z3_,memN,zu_,zt_,zn_,iOf,zb_,xw_,z0_,xl_,yz_,inR,inN,Int.cast_ofNat_Int,hN,hT,goV,goU,goW,hun,hwn,hdn,heb];rfl));(try kernel_rfl);try exact k180_)|fail)
 refine WF.thenJoin (fun fc2:Bool=>fc2=false→ce2=cs) (fun fc2=>[(7,.ptr 10 []),(9,.sl 21 21 [] 5 0 P.length none),(10,.ptr 22 []),(11,.ptr 24 []),(14,.ptr 25 []),(15,.nat .i64 u),(16,.bool w),(19,.bool dn),(20,.int .i64 eb),(21,.ptr 32 []),(108,.sl 26 6 [] 1 0 K none),(109,.nat .i64 K),(110,.nat .i64 j)]) (fun fc2=>[.gone,.gone,.gone,.gone,.gone,.gone,.ro (.arr ps.length 1 (zp_ ps)),.gone,.gone,.gone,rB 11 16 17 18 un wn,eB 12 15 P.length,mB (⟨at2,en2,rg2,ce2,dr2,se2⟩:Sta) v x2 13 14,cB (⟨at2,en2,rg2,ce2,dr2,se2⟩:Sta),sB (⟨at2,en2,rg2,ce2,dr2,se2⟩:Sta),prO P,clA 19 P.length,clB v,clC s0 20,prO P,cB s0,prT P,.own 102 (.agg [.int .u64 v.seed,.int .i64 v.process,.int .i64 v.ports,.int .i64 v.look,.int .i64 v.now]) true,cRf cs,.own 105 (.agg [.nat .i64 0,.bool false,.arr 8 1 (fun j=>.int .i64 (begR y t s j)),.sl 23 23 [] 1 0 cs.length none,.int .i64 d,.sl 0 0 [] 0 0 0 (some 0)]) true,.own 105 (.agg [.int .i64 (⟨at1,en,rg,ce,dr,se⟩:Sta).at_,.bool (⟨at1,en,rg,ce,dr,se⟩:Sta).ended,.arr 8 1 (fun q=>.int .i64 ((⟨at1,en,rg,ce,dr,se⟩:Sta).regs q)),SV.ite fc (.sl 28 28 [] 1 0 (⟨at1,en,rg,ce,dr,se⟩:Sta).cells.length none) (.sl 23 23 [] 1 0 cs.length none),.int .i64 (⟨at1,en,rg,ce,dr,se⟩:Sta).draws,.sl 27 27 [] 3 0 (⟨at1,en,rg,ce,dr,se⟩:Sta).sends.length none]) true,.gone,.gone,.gone,sRf se2,cRf (bif fc2 then ce2 else []),.gone,.own 112 (.agg [.sl 31 31 [] 1 0 tr.length none,.int .i64 ra,.int .i64 rb,.agg [.int .i64 at2,.bool en2,.arr 8 1 (fun q=>.int .i64 (rg2 q)),SV.ite fc2 (.sl 30 30 [] 1 0 ce2.length none) (.sl 23 23 [] 1 0 cs.length none),.int .i64 dr2,.sl 29 29 [] 3 0 se2.length none]]) true]) ?_ ?_
 ·cases fc<;>cases b1<;>cases b2<;>(try (have hc0:=hc rfl;subst hc0))<;>(try (have hq1:=hF.1 rfl;subst hq1))<;>(try (have hq2:=hF.2 rfl;subst hq2))
  all_goals
   repeat' (first|refine Ctl.h ?_ |((with_reducible intro hif);first |(focus (cases hif;done)) |((try simp only[JH]at hif);try exact hy_)) |((with_reducible first|apply J22 cGG_ok za_|apply J23 fol cGG_ok za_|apply J24);(·rfl);(· (simp only[push_cast,↓JP,Nat.reduceAdd,Nat.reduceEqDiff,Nat.reduceLT,Nat.reduceMul,Nat.reduceLeDiff,reduceCtorEq,reduceIte,↓JK,cGG,JM,JE,JB,wc_,xv_,rvS,fsS,clP,y0_,sClI,sCl64,sTh14,xc_,sRt18,sSpo,x6_,rBack,rState,rUsed,rGo,rGoQ,rGoR,rGoRQ,x8_,rUsedQ,runP,clP,sFrom,sTh18,wg_,sNewB,sNewG,engP,prP,macP,eB,rB,clA,clB,clC,prO,sr,evS,stS,cRf,sRf,trO,cB,sB,prT,ys_,nilS,z3_,memN,zu_,zt_,zn_,iOf,zb_,xw_,z0_,xl_,yz_,inR,inN,Int.cast_ofNat_Int,hR,hB,xk_];rfl));(try kernel_rfl);try exact k180_)|fail)
  ·refine At.nextPick [0,1,2,3,4,5,6,7,8,9,10,11,12,13,29,15,16,17,18,19,20,21,22,23,24,25,26,27,28,27,31,30,33] false ?_ rfl rfl rfl ?_ rfl ?_ ?_ ?_ rfl
   ·exact fun _=>rfl
   ·exact k40_
   ·exact yw_
   ·exact k32_
   ·exact yw_
  ·refine At.nextPick [0,1,2,3,4,5,6,7,8,9,10,11,12,13,29,15,16,17,18,19,20,21,22,23,24,25,26,27,28,32,31,30,33] false ?_ rfl rfl rfl ?_ rfl ?_ ?_ ?_ rfl
   ·exact fun _=>rfl
   ·exact k40_
   ·exact yw_
   ·exact k32_
   ·exact yw_
  ·exact d55_
  ·exact d56_
  ·refine At.nextPick [0,1,2,3,4,5,6,7,8,9,10,11,12,13,29,15,16,17,18,19,20,21,22,23,24,25,26,27,28,27,28,30,33] true ?_ rfl rfl rfl ?_ rfl ?_ ?_ ?_ rfl
   ·exact fun h=>by cases h
   ·exact k40_
   ·exact yw_
   ·exact k32_
   ·exact yw_
  ·refine At.nextPick [0,1,2,3,4,5,6,7,8,9,10,11,12,13,29,15,16,17,18,19,20,21,22,23,24,25,26,27,28,32,28,30,33] true ?_ rfl rfl rfl ?_ rfl ?_ ?_ ?_ rfl
   ·exact fun h=>by cases h
   ·exact k40_
   ·exact yw_
   ·exact k32_
   ·exact yw_
  ·exact d55_
  ·exact d56_
 intro fc2 hfc2
 have htl6:tr.length≤600:=by omega
 have hl3:ce2.length=cs.length:=hl2.trans hl
 have hse2:se2.length≤1000000:=by have:=hg2.sd;dsimp only at this;omega
 have hce2:ce2.length≤1000000:=by omega
 have hsm2:=same_refl ⟨at2,en2,rg2,ce2,dr2,se2⟩
 by_cases hb:rb=190
 ·subst hb
  obtain rfl:false=dn:=hdn
  obtain rfl:0=eb:=heb
  have hb0:¬((190:Int)=0):=by decide
  cases w
  ·obtain rfl:u+tr.length=un:=hun
   obtain rfl:wn=false:=hwn.symm
   cases fc2<;>(try (have hq3:=hfc2 rfl;subst hq3))
   all_goals
    repeat' (first|refine Ctl.h ?_ |((with_reducible intro hif);first |(focus (cases hif;done)) |((try simp only[JH]at hif);try exact hy_)) |((with_reducible first|apply J22 cGG_ok za_|apply J23 fol cGG_ok za_|apply J24);(·rfl);(· exact k182_);(try kernel_rfl);try exact k180_)|fail)
   ·exact d57_
   ·exact d58_
  ·obtain rfl:u=un:=hun
   obtain rfl:true=wn:=hwn
   cases fc2<;>(try (have hq3:=hfc2 rfl;subst hq3))
   all_goals
    repeat' (first|refine Ctl.h ?_ |((with_reducible intro hif);first |(focus (cases hif;done)) |((try simp only[JH]at hif);try exact hy_)) |((with_reducible first|apply J22 cGG_ok za_|apply J23 fol cGG_ok za_|apply J24);(·rfl);(· exact k182_);(try kernel_rfl);try exact k180_)|fail)
   ·exact d59_
   ·exact d60_
 ·by_cases hb0:rb=0
  ·subst hb0
   obtain rfl:true=dn:=hdn
   obtain rfl:0=eb:=heb
   cases w
   ·obtain rfl:u+tr.length=un:=hun
    obtain rfl:wn=false:=hwn.symm
    cases fc2<;>(try (have hq3:=hfc2 rfl;subst hq3))
    all_goals
     repeat' (first|refine Ctl.h ?_ |((with_reducible intro hif);first |(focus (cases hif;done)) |((try simp only[JH]at hif);try exact hy_)) |((with_reducible first|apply J22 cGG_ok za_|apply J23 fol cGG_ok za_|apply J24);(·rfl);(· exact k183_);(try kernel_rfl);try exact k180_)|fail)
    ·exact d57_
    ·exact d58_
   ·obtain rfl:u=un:=hun
    obtain rfl:true=wn:=hwn
    cases fc2<;>(try (have hq3:=hfc2 rfl;subst hq3))
    all_goals
     repeat' (first|refine Ctl.h ?_ |((with_reducible intro hif);first |(focus (cases hif;done)) |((try simp only[JH]at hif);try exact hy_)) |((with_reducible first|apply J22 cGG_ok za_|apply J23 fol cGG_ok za_|apply J24);(·rfl);(· exact k183_);(try kernel_rfl);try exact k180_)|fail)
    ·exact d59_
    ·exact d60_
  ·obtain rfl:false=dn:=by rw[←hdn];exact(decide_eq_false hb0).symm
   obtain rfl:rb=eb:=by rw[←heb];exact(if_neg hb).symm
   cases w
   ·obtain rfl:u+tr.length=un:=hun
    obtain rfl:wn=true:=by rw[←hwn];simp[hb,hb0]
    cases fc2<;>(try (have hq3:=hfc2 rfl;subst hq3))
    all_goals
     repeat' (first|refine Ctl.h ?_ |((with_reducible intro hif);first |(focus (cases hif;done)) |((try simp only[JH]at hif);try exact hy_)) |((with_reducible first|apply J22 cGG_ok za_|apply J23 fol cGG_ok za_|apply J24);(·rfl);(· exact k184_);(try kernel_rfl);try exact k180_)|fail)
    ·refine At.nextPick [0,1,2,3,4,5,6,7,8,9,10,11,12,13,14,15,16,17,18,19,20,21,22,23,24,25,26,29,30] ⟨j+1,⟨at2,en2,rg2,ce2,dr2,se2⟩,x2,u+tr.length,true,false⟩ ?_ rfl rfl rfl ?_ rfl ?_ ?_ ?_ rfl
     ·exact k176_
     ·exact k40_
     ·exact yw_
     ·exact k32_
     ·exact yw_
    ·refine At.nextPick [0,1,2,3,4,5,6,7,8,9,10,11,12,13,14,15,16,17,18,19,20,21,22,23,24,25,26,29,30] ⟨j+1,⟨at2,en2,rg2,ce2,dr2,se2⟩,x2,u+tr.length,true,true⟩ ?_ rfl rfl rfl ?_ rfl ?_ ?_ ?_ rfl
     ·exact k177_
     ·exact k40_
     ·exact yw_
     ·exact k32_
     ·exact yw_
   ·obtain rfl:u=un:=hun
    obtain rfl:true=wn:=hwn
    cases fc2<;>(try (have hq3:=hfc2 rfl;subst hq3))
    all_goals
     repeat' (first|refine Ctl.h ?_ |((with_reducible intro hif);first |(focus (cases hif;done)) |((try simp only[JH]at hif);try exact hy_)) |((with_reducible first|apply J22 cGG_ok za_|apply J23 fol cGG_ok za_|apply J24);(·rfl);(· exact k184_);(try kernel_rfl);try exact k180_)|fail)
    ·exact d59_
    ·exact d60_
end Go.Proofs.YtjliakjbdcplcaaGreat.Vm
end

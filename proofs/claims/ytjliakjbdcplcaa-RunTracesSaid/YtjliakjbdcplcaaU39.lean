import Derived.Test.YtjliakjbdcplcaaU1
import Derived.Test.YtjliakjbdcplcaaU25
import Derived.Test.YtjliakjbdcplcaaU27
import Derived.Test.YtjliakjbdcplcaaU36
import Derived.Test.YtjliakjbdcplcaaU37
import Derived.Test.YtjliakjbdcplcaaU38
set_option linter.unusedSimpArgs false
set_option linter.unusedVariables false
set_option maxRecDepth 100000
set_option maxHeartbeats 4000000
section
namespace Go.Proofs.Ytjliakjbdcplcaa.Vm
open Go.RowKit
attribute [local push_cast] eqB eqBL allB prS zt_ i64S xo_ y3_ y2_ y1_ y0_ yz_ xn_ yy_ yx_ yw_ zy_ zv_ zw_ zu_ y5_ y4_ iOf nav_k nav_k0 nav_k1 nav_ka nav_kai nav_ft nav_ft0 nav_ft1 isKn_kS knOf_kS isKa_kaS kaOf_kaS isFt_ftS ftOf_ftS setp_ka setp_ftk setp_ftr setp_fti evm_ins evm_snd evm_k evm_ka evm_ft cB_eq sB_eq JE JB sAw19 sMd19 sCrG sCrB sTrS sTrN sFactsR sDoomU sNext sCont ls_prS ls_prS' ls_prS2 ls_i64S ls_i64S' inR inN
theorem mem_doomK (xs:List Ins)(F:List Ft)(c p l:Int):∀(n:Nat) (k:Int),k∈doomK xs F c p l n→whyE c p l (xs.getD k.toNat ⟨0,0,0,0,0⟩) (ys_ F k.toNat)≠0
 | 0,k,h=>by cases h
 | n+1,k,h=>by
  unfold doomK at h
  rcases List.mem_append.1 h with h|h
  ·exact mem_doomK xs F c p l n k h
  ·split at h
   ·rename_i q
    simp at h
    subst h
    exact q
   ·cases h
theorem next_right {P:List Ins}(hc:(y8_ P).2=0){k:Int}(h0:0≤k)(h1:k < P.length):nextE P k=0∧nextL P k=yg_ (insAt P k) k:=by
 have hr:rightI P=0:=if_pos hc
 have he:nextE P k=0:=by unfold nextE;rw[if_neg (fun h=>h hr),if_neg (by omega)]
 refine⟨he,?_⟩
 unfold nextL
 rw[if_neg (fun h=>h he)]
 rfl
theorem edges_len (x:Ins)(k:Int):(yg_ x k).length≤3:=by
 unfold yg_
 repeat' split
 all_goals simp
def cTrG:FuncId→Option yr_:=xb_ [(12,sAw19),(13,sMd19),(14,sCrG),(25,sTrS),(36,sFactsR),(37,sDoomU),(39,sNext),(38,sCont)]
theorem cTrG_ok:∀f S,cTrG f=some S→zh_ Try.prog f S:=zn_ ⟨sAw19_ok,sMd19_ok,sCrG_ok,sTrS_ok,sFactsR_ok,sDoomU_ok,sNext_ok,sCont_ok,trivial⟩
def cTrB:FuncId→Option yr_:=xb_ [(12,sAw19),(13,sMd19),(14,sCrB),(25,sTrS),(36,sFactsR),(37,sDoomU),(39,sNext),(38,sCont)]
theorem cTrB_ok:∀f S,cTrB f=some S→zh_ Try.prog f S:=zn_ ⟨sAw19_ok,sMd19_ok,sCrB_ok,sTrS_ok,sFactsR_ok,sDoomU_ok,sNext_ok,sCont_ok,trivial⟩
def cTrN:FuncId→Option yr_:=xb_ [(12,sAw19),(13,sMd19),(14,sCrB),(25,sTrN),(36,sFactsR),(37,sDoomU),(39,sNext),(38,sCont)]
theorem cTrN_ok:∀f S,cTrN f=some S→zh_ Try.prog f S:=zn_ ⟨sAw19_ok,sMd19_ok,sCrB_ok,sTrN_ok,sFactsR_ok,sDoomU_ok,sNext_ok,sCont_ok,trivial⟩
theorem traces_lit (xs:List Ins)(a d sn time source value fuel:Int)(rg:Nat→Int)(cs:List Int)(v:Evi)(p1 p2:Nat)(hx:∀x∈xs,x.ok)(hcap:max xs.length p1≤9223372036854775807)(hcp:cs.length≤p2)(ha:0≤a∧a≤255)(hd:0≤d∧d≤4294967295)(hs:0≤sn∧sn≤255)(ht:0≤time∧time≤4294967295)(hso:0≤source∧source≤255)(hf:0≤fuel∧fuel≤65535):yc_ Try.prog 11
  [.agg [.sl 1 2 [] 5 0 xs.length (some p1),.agg [.int .u8 a,.arr 8 1 (fun q=>.int .i64 (rg q)),.sl 3 4 [] 1 0 cs.length (some p2),.int .u32 d,.int .u8 sn],.agg [.int .u64 v.seed,.int .i64 v.process,.int .i64 v.ports,.int .i64 v.look,.int .i64 v.now],.int .u32 time,.int .u8 source,.int .i64 value,.int .u16 fuel]]
  [.gone,.gone,.ro (.arr xs.length 5 (prS xs)),.gone,.ro (.arr cs.length 1 (i64S cs))] (.bool true) [.gone]:=by
 have w1:=wrap_u16 v.process
 have w2:=wrap_u8 v.ports
 have w3:=wrap_u8 v.look
 have f0:=Int.tmod_nonneg 512 hf.1
 have f1:=Int.tmod_lt_of_pos fuel (show (0:Int) < 512 by decide)
 have pt0:=Int.tmod_nonneg 17 w2.1
 have hok:=made14_ok xs hx
 have hml:=(made14_le xs).2
 have hml0:=(made14_le xs).1
 have hn:(zq_ xs).length≤1000000:=by omega
 have hct:(cs.take 12).length≤12:=by rw[List.length_take];omega
 have hcl:(cs.take 12).length≤1000000:=by omega
 have hO:openE (zq_ xs) ⟨v.seed,IntKind.wrap .u16 v.process,(IntKind.wrap .u8 v.ports).tmod 17,1+IntKind.wrap .u8 v.look,time⟩ (ya_ value time source (cs.take 12) d)=0:=made_open xs w1.1 (by show IntKind.wrap .u16 v.process≤65536;omega) pt0 (by show 1≤1+IntKind.wrap .u8 v.look;omega) ht.1 (by show time≤281474976710656;omega) (by omega) hd.1 (by omega)
 have hPG:PG (zq_ xs):=⟨hok,(openE_zero hO).1⟩
 have hchk:=hPG.chk
 have hSG:SG (zq_ xs) (ya_ value time source (cs.take 12) d):=SG.of (openE_zero hO).2.2 (by simp[ya_])
 have g1:=runO_le hO f0 (by omega)
 have g5:=runO_good' hok hO (by simp[ya_]) f0 (by omega)
 obtain⟨Fs,hFs⟩:∃Fs,Fs=factsS (zq_ xs):=⟨_,rfl⟩
 obtain⟨lp,hlp⟩:∃lp,min ((IntKind.wrap .u8 v.ports).tmod 17) 16=lp:=⟨_,rfl⟩
 have hlp0:=hlp
 have hTI:TI (zq_ xs) ⟨v.seed,IntKind.wrap .u16 v.process,(IntKind.wrap .u8 v.ports).tmod 17,1+IntKind.wrap .u8 v.look,time⟩ Fs ((cs.take 12).length:Int) lp [] (ya_ value time source (cs.take 12) d):=ti_beg hPG hFs rfl
 have hTG:=run_TG hPG hFs (v:=⟨v.seed,IntKind.wrap .u16 v.process,(IntKind.wrap .u8 v.ports).tmod 17,1+IntKind.wrap .u8 v.look,time⟩) (lc:=((cs.take 12).length:Int)) (lp:=lp) hlp.symm (fuel.tmod 512).toNat (ya_ value time source (cs.take 12) d) Ins0 [] 0 hTI rfl
 have hfu:=fun hb=>(runO_fuel hO f0 (Int.le_refl 0) (by omega) (n:=0) hb).1
 have hz0:fuel.tmod 512=0→(xd_ (zq_ xs) ⟨v.seed,IntKind.wrap .u16 v.process,(IntKind.wrap .u8 v.ports).tmod 17,1+IntKind.wrap .u8 v.look,time⟩ (ya_ value time source (cs.take 12) d) (fuel.tmod 512)).at_=0:=fun h=>by rw[runO_of hO f0 (by omega),h];show (runA _ _ 0 _ _ _ _).at_=0;rw[runA_zero rfl];rfl
 rw[←runO_of hO f0 (by omega)]at hTG
 have hlim:limB ((cs.take 12).length:Int) lp (1+IntKind.wrap .u8 v.look)=true:=by
  unfold limB
  simp only[Bool.and_eq_true,decide_eq_true_eq]
  omega
 obtain⟨Dm,hDm⟩:∃Dm,doomK (zq_ xs) Fs ((cs.take 12).length:Int) lp (1+IntKind.wrap .u8 v.look) (zq_ xs).length=Dm:=⟨_,rfl⟩
 have hDl:=doom_len (zq_ xs) Fs ((cs.take 12).length:Int) lp (1+IntKind.wrap .u8 v.look) (zq_ xs).length
 rw[hDm]at hDl
 have hdm:∀k:Int,whyE ((cs.take 12).length:Int) lp (1+IntKind.wrap .u8 v.look) (insAt (zq_ xs) k) (ys_ Fs k.toNat)=0→¬k∈Dm:=fun k h0 hm=>mem_doomK _ _ _ _ _ _ k (by rw[hDm];exact hm) h0
 obtain⟨R,hRr⟩:∃R,xd_ (zq_ xs) ⟨v.seed,IntKind.wrap .u16 v.process,(IntKind.wrap .u8 v.ports).tmod 17,1+IntKind.wrap .u8 v.look,time⟩ (ya_ value time source (cs.take 12) d) (fuel.tmod 512)=R:=⟨_,rfl⟩
 rw[hRr]at g1 g5 hTG hfu hz0
 obtain⟨T,hT⟩:=hTG
 have c5:=g5.c1
 have n5:=g5.n1
 have c5':R.s.cells.length≤1000000:=by omega
 have hNx:∀j,0 < j→j < R.tr.length→nextE (zq_ xs) (R.tr.getD (j - 1) 0)=0∧R.tr.getD j 0∈nextL (zq_ xs) (R.tr.getD (j - 1) 0)∧(nextL (zq_ xs) (R.tr.getD (j - 1) 0)).length≤3:=fun j h0 hj=>by
  obtain⟨i0,i1,_⟩:=T.inr (j - 1) (by omega)
  obtain⟨n0,n1⟩:=next_right hchk i0 i1
  refine⟨n0,?_,?_⟩
  ·rw[n1]
   have:=T.nx (j - 1) (by omega)
   rwa [show j - 1+1=j by omega]at this
  ·rw[n1];exact edges_len _ _
 by_cases hb:R.bad=0
 ·have hne:R.tr.isEmpty=false:=by
   obtain⟨t0,_⟩:=hT (by rw[hb];decide)
   cases h2:R.tr with
   | nil=>rw[h2]at t0;exact absurd t0 (by decide)
   | cons x l=>rfl
  refine zm_ (fn:=Try.f11) 5 205 0 rfl rfl rfl rfl rfl u12_ rfl fun w0 M E hro=>?_
  repeat' (first|refine Ctl.h ?_ |((with_reducible intro hif);first |(focus (cases hif;done)) |((try simp only[JH]at hif);try exact hy_)) |((with_reducible first|apply J22 cTrG_ok za_|apply J23 fol cTrG_ok za_|apply J24);(·rfl);(· (simp only[push_cast,↓JP,Nat.reduceAdd,Nat.reduceEqDiff,Nat.reduceLT,Nat.reduceMul,Nat.reduceLeDiff,reduceCtorEq,reduceIte,↓JK,↓JF,Int.toNat_natCast,Nat.sub_zero,hlim,hlp0,cTrG,hRr,←hFs,hDm,hb,hne];rfl));(try kernel_rfl);try exact k153_)|fail)
  refine WF.loopAt (fun (j:Nat)=>j≤R.tr.length) (fun (j:Nat)=>[(3,.ptr 8 []),(4,.ptr 11 []),(5,.int .i64 (0)),(6,.sl 12 12 [] 1 0 R.tr.length none),(8,.sl 13 13 [] 17 0 (zq_ xs).length none),(10,.sl 14 14 [] 1 0 Dm.length none),(90,.sl 12 12 [] 1 0 R.tr.length none),(91,.nat .i64 R.tr.length),(92,.nat .i64 j)]) (fun (j:Nat)=>[.gone,.gone,.ro (.arr xs.length 5 (prS xs)),.gone,.ro (.arr cs.length 1 (i64S cs)),.gone,.own 73 (.arr (zq_ xs).length 5 (prS (zq_ xs))) false,.own 2 (.arr (cs.take 12).length 1 (i64S (cs.take 12))) false,.own 41 (.agg [.sl 6 6 [] 5 0 (zq_ xs).length none,.agg [.int .u64 v.seed,.int .i64 (IntKind.wrap .u16 v.process),.int .i64 ((IntKind.wrap .u8 v.ports).tmod 17),.int .i64 (1+IntKind.wrap .u8 v.look),.int .i64 time],.agg [.agg [.int .i64 time,.int .i64 source,.int .i64 1],.int .i64 0,.int .i64 value],.sl 7 7 [] 1 0 (cs.take 12).length none,.int .i64 d,.int .i64 (fuel.tmod 512)]) true,cB R.s,sB R.s,.own 45 (.agg [.nat .i64 R.tr.length,.int .i64 R.at_,.sl 9 9 [] 1 0 R.s.cells.length none,.int .i64 R.s.draws,.sl 10 10 [] 3 0 R.s.sends.length none]) true,.own 3 (.arr R.tr.length 1 (i64S R.tr)) false,.own 113 (.arr (zq_ xs).length 17 (ftsS Fs)) false,.own 3 (.arr Dm.length 1 (i64S Dm)) false]) (fun (j:Nat)=>R.tr.length - j) 0 (Nat.zero_le _) ?_ ?_ rfl ?_ ?_ rfl ?_
  ·exact k28_
  ·exact k7_
  ·exact k152_
  ·exact k152_
  intro j hj
  by_cases hj1:j < R.tr.length
  ·obtain⟨k,hk⟩:∃k,R.tr.getD j 0=k:=⟨_,rfl⟩
   obtain⟨k0,k1,kr⟩:=T.inr j hj1
   have knd:=fun h=>hdm _ (T.nd j h)
   rw[hk]at k0 k1 kr knd
   have kn:k.toNat < (zq_ xs).length:=by omega
   have kneg:¬k < 0:=by omega
   have kge:¬((zq_ xs).length:Int)≤k:=by omega
   by_cases hjl:(j:Int) < (R.tr.length:Int) - 1
   case' pos=>have knd:=knd (by omega)
   case' neg=>
    clear knd
    have knd:=hjl
   all_goals
    by_cases hj0:j=0
    ·have hk0:k=0:=by rw[←hk,hj0];exact T.hd (by omega)
     have hjn:¬0 < j:=by omega
     have hjni:¬(0:Int) < (j:Int):=by omega
     repeat' (first|refine Ctl.h ?_ |((with_reducible intro hif);first |(focus (cases hif;done)) |((try simp only[JH]at hif);try exact hy_)) |((with_reducible first|apply J22 cTrG_ok za_|apply J23 fol cTrG_ok za_|apply J24);(·rfl);(· (simp only[push_cast,↓JP,Nat.reduceAdd,Nat.reduceEqDiff,Nat.reduceLT,Nat.reduceMul,Nat.reduceLeDiff,reduceCtorEq,reduceIte,↓JK,↓JF,Int.toNat_natCast,Nat.sub_zero,hlim,hlp0,cTrG,hRr,←hFs,hDm,hb,hne,ftsS,hk,eq_true hk0,eq_true hj0,hjn,hjni,kneg,kge,kr,knd,hjl];rfl));(try kernel_rfl);try exact k153_)|fail)
     refine At.nextPick [0,1,2,3,4,5,6,7,8,9,10,11,12,13,14] (j+1) ?_ rfl rfl rfl ?_ rfl ?_ ?_ ?_ rfl
     ·exact⟨hj1,by omega⟩
     ·exact k24_
     ·exact k152_
     ·exact k45_
     ·exact k152_
    ·have hjp:(0:Int) < (j:Int):=by omega
     have hjq:0 < j:=by omega
     have hjm:((j:Int) - 1).toNat=j - 1:=by omega
     obtain⟨m0,m1,m2⟩:=hNx j (by omega) hj1
     rw[hk]at m1
     obtain⟨k',hk'⟩:∃k',R.tr.getD (j - 1) 0=k':=⟨_,rfl⟩
     rw[hk']at m0 m1 m2
     repeat' (first|refine Ctl.h ?_ |((with_reducible intro hif);first |(focus (cases hif;done)) |((try simp only[JH]at hif);try exact hy_)) |((with_reducible first|apply J22 cTrG_ok za_|apply J23 fol cTrG_ok za_|apply J24);(·rfl);(· (simp only[push_cast,↓JP,Nat.reduceAdd,Nat.reduceEqDiff,Nat.reduceLT,Nat.reduceMul,Nat.reduceLeDiff,reduceCtorEq,reduceIte,↓JK,↓JF,Int.toNat_natCast,Nat.sub_zero,hlim,hlp0,cTrG,hRr,←hFs,hDm,hb,hne,ftsS,hk,kneg,kge,kr,knd,hjl,hj0,hjp,hjq,hjm,hk',m0,m1];rfl));(try kernel_rfl);try exact k153_)|fail)
     refine At.nextPick [0,1,2,3,4,5,6,7,8,9,10,11,12,13,14] (j+1) ?_ rfl rfl rfl ?_ rfl ?_ ?_ ?_ rfl
     ·exact⟨hj1,by omega⟩
     ·exact k24_
     ·exact k152_
     ·exact k45_
     ·exact k152_
  ·obtain rfl:j=R.tr.length:=by omega
   obtain⟨t0,t1,t2⟩:=hT (by rw[hb];decide)
   obtain⟨i0,i1,_⟩:=T.inr (R.tr.length - 1) (by omega)
   rw[t1]at i0 i1
   have hlm:((R.tr.length:Int) - 1).toNat=R.tr.length - 1:=by omega
   have hop:((zq_ xs).getD R.at_.toNat ⟨0,0,0,0,0⟩).op=1:=t2.2 hb
   repeat' (first|refine Ctl.h ?_ |((with_reducible intro hif);first |(focus (cases hif;done)) |((try simp only[JH]at hif);try exact hy_)) |((with_reducible first|apply J22 cTrG_ok za_|apply J23 fol cTrG_ok za_|apply J24);(·rfl);(· (simp only[push_cast,↓JP,Nat.reduceAdd,Nat.reduceEqDiff,Nat.reduceLT,Nat.reduceMul,Nat.reduceLeDiff,reduceCtorEq,reduceIte,↓JK,↓JF,Int.toNat_natCast,Nat.sub_zero,hlim,hlp0,cTrG,hRr,←hFs,hDm,hb,hne,hj1,t0,t1,hlm,hop];rfl));(try kernel_rfl);try exact k153_)|fail)
   apply At.endsRet za_ (fn:=Try.f11) (rs:=[.tmp 2]) Anc.refl hro (lb_ rfl) rfl
   ·simp only[push_cast,↓JP,Nat.reduceAdd,Nat.reduceEqDiff,Nat.reduceLT,Nat.reduceMul,Nat.reduceLeDiff,reduceCtorEq,reduceIte,↓JK,↓JF,resV,resV1,cB_eq,sB_eq,JE,JB,sAw19,sMd19,sCrG,sCrB,sTrS,sTrN,sFactsR,sDoomU,sNext,sCont,ls_prS,ls_prS',ls_prS2,ls_i64S,ls_i64S',i64S,y5_,y4_,iOf,Int.toNat_natCast,inR,inN,Nat.sub_zero,hlim,hlp0,cTrG,hRr,←hFs,hDm,hb,hne,t0,t1,hlm,hop];rfl
   ·exact k6_
   ·exact k7_
   ·rfl
   ·exact k152_
   ·exact k9_
   ·exact fun β=>rfl
   ·exact k152_
 cases hne:R.tr.isEmpty
 ·skip
  refine zm_ (fn:=Try.f11) 5 205 0 rfl rfl rfl rfl rfl u12_ rfl fun w0 M E hro=>?_
  repeat' (first|refine Ctl.h ?_ |((with_reducible intro hif);first |(focus (cases hif;done)) |((try simp only[JH]at hif);try exact hy_)) |((with_reducible first|apply J22 cTrB_ok za_|apply J23 fol cTrB_ok za_|apply J24);(·rfl);(· (simp only[push_cast,↓JP,Nat.reduceAdd,Nat.reduceEqDiff,Nat.reduceLT,Nat.reduceMul,Nat.reduceLeDiff,reduceCtorEq,reduceIte,↓JK,↓JF,Int.toNat_natCast,Nat.sub_zero,hlim,hlp0,cTrB,hRr,←hFs,hDm,hb,hne];rfl));(try kernel_rfl);try exact k153_)|fail)
  refine WF.loopAt (fun (j:Nat)=>j≤R.tr.length) (fun (j:Nat)=>[(3,.ptr 8 []),(4,.ptr 9 []),(5,.int .i64 (R.bad)),(6,.sl 10 10 [] 1 0 R.tr.length none),(8,.sl 11 11 [] 17 0 (zq_ xs).length none),(10,.sl 12 12 [] 1 0 Dm.length none),(90,.sl 10 10 [] 1 0 R.tr.length none),(91,.nat .i64 R.tr.length),(92,.nat .i64 j)]) (fun (j:Nat)=>[.gone,.gone,.ro (.arr xs.length 5 (prS xs)),.gone,.ro (.arr cs.length 1 (i64S cs)),.gone,.own 73 (.arr (zq_ xs).length 5 (prS (zq_ xs))) false,.own 2 (.arr (cs.take 12).length 1 (i64S (cs.take 12))) false,.own 41 (.agg [.sl 6 6 [] 5 0 (zq_ xs).length none,.agg [.int .u64 v.seed,.int .i64 (IntKind.wrap .u16 v.process),.int .i64 ((IntKind.wrap .u8 v.ports).tmod 17),.int .i64 (1+IntKind.wrap .u8 v.look),.int .i64 time],.agg [.agg [.int .i64 time,.int .i64 source,.int .i64 1],.int .i64 0,.int .i64 value],.sl 7 7 [] 1 0 (cs.take 12).length none,.int .i64 d,.int .i64 (fuel.tmod 512)]) true,.own 45 (.agg [.nat .i64 R.tr.length,.int .i64 R.at_,.sl 0 0 [] 0 0 0 (some 0),.nat .i64 0,.sl 0 0 [] 0 0 0 (some 0)]) true,.own 3 (.arr R.tr.length 1 (i64S R.tr)) false,.own 113 (.arr (zq_ xs).length 17 (ftsS Fs)) false,.own 3 (.arr Dm.length 1 (i64S Dm)) false]) (fun (j:Nat)=>R.tr.length - j) 0 (Nat.zero_le _) ?_ ?_ rfl ?_ ?_ rfl ?_
  ·exact k28_
  ·exact k7_
  ·exact k152_
  ·exact k152_
  intro j hj
  by_cases hj1:j < R.tr.length
  ·obtain⟨k,hk⟩:∃k,R.tr.getD j 0=k:=⟨_,rfl⟩
   obtain⟨k0,k1,kr⟩:=T.inr j hj1
   have knd:=fun h=>hdm _ (T.nd j h)
   rw[hk]at k0 k1 kr knd
   have kn:k.toNat < (zq_ xs).length:=by omega
   have kneg:¬k < 0:=by omega
   have kge:¬((zq_ xs).length:Int)≤k:=by omega
   by_cases hjl:(j:Int) < (R.tr.length:Int) - 1
   case' pos=>have knd:=knd (by omega)
   case' neg=>
    clear knd
    have knd:=hjl
   all_goals
    by_cases hj0:j=0
    ·have hk0:k=0:=by rw[←hk,hj0];exact T.hd (by omega)
     have hjn:¬0 < j:=by omega
     have hjni:¬(0:Int) < (j:Int):=by omega
     repeat' (first|refine Ctl.h ?_ |((with_reducible intro hif);first |(focus (cases hif;done)) |((try simp only[JH]at hif);try exact hy_)) |((with_reducible first|apply J22 cTrB_ok za_|apply J23 fol cTrB_ok za_|apply J24);(·rfl);(· (simp only[push_cast,↓JP,Nat.reduceAdd,Nat.reduceEqDiff,Nat.reduceLT,Nat.reduceMul,Nat.reduceLeDiff,reduceCtorEq,reduceIte,↓JK,↓JF,Int.toNat_natCast,Nat.sub_zero,hlim,hlp0,cTrB,hRr,←hFs,hDm,hb,hne,ftsS,hk,eq_true hk0,eq_true hj0,hjn,hjni,kneg,kge,kr,knd,hjl];rfl));(try kernel_rfl);try exact k153_)|fail)
     refine At.nextPick [0,1,2,3,4,5,6,7,8,9,10,11,12] (j+1) ?_ rfl rfl rfl ?_ rfl ?_ ?_ ?_ rfl
     ·exact⟨hj1,by omega⟩
     ·exact k24_
     ·exact k152_
     ·exact k45_
     ·exact k152_
    ·have hjp:(0:Int) < (j:Int):=by omega
     have hjq:0 < j:=by omega
     have hjm:((j:Int) - 1).toNat=j - 1:=by omega
     obtain⟨m0,m1,m2⟩:=hNx j (by omega) hj1
     rw[hk]at m1
     obtain⟨k',hk'⟩:∃k',R.tr.getD (j - 1) 0=k':=⟨_,rfl⟩
     rw[hk']at m0 m1 m2
     repeat' (first|refine Ctl.h ?_ |((with_reducible intro hif);first |(focus (cases hif;done)) |((try simp only[JH]at hif);try exact hy_)) |((with_reducible first|apply J22 cTrB_ok za_|apply J23 fol cTrB_ok za_|apply J24);(·rfl);(· (simp only[push_cast,↓JP,Nat.reduceAdd,Nat.reduceEqDiff,Nat.reduceLT,Nat.reduceMul,Nat.reduceLeDiff,reduceCtorEq,reduceIte,↓JK,↓JF,Int.toNat_natCast,Nat.sub_zero,hlim,hlp0,cTrB,hRr,←hFs,hDm,hb,hne,ftsS,hk,kneg,kge,kr,knd,hjl,hj0,hjp,hjq,hjm,hk',m0,m1];rfl));(try kernel_rfl);try exact k153_)|fail)
     refine At.nextPick [0,1,2,3,4,5,6,7,8,9,10,11,12] (j+1) ?_ rfl rfl rfl ?_ rfl ?_ ?_ ?_ rfl
     ·exact⟨hj1,by omega⟩
     ·exact k24_
     ·exact k152_
     ·exact k45_
     ·exact k152_
  ·obtain rfl:j=R.tr.length:=by omega
   by_cases hq:R.bad=190
   ·have hfl:=hfu hq
    have hlz:¬R.tr.length=0:=by intro h;rw[List.isEmpty_eq_false_iff]at hne;exact hne (List.eq_nil_of_length_eq_zero h)
    have hlp2:0 < R.tr.length:=by omega
    repeat' (first|refine Ctl.h ?_ |((with_reducible intro hif);first |(focus (cases hif;done)) |((try simp only[JH]at hif);try exact hy_)) |((with_reducible first|apply J22 cTrB_ok za_|apply J23 fol cTrB_ok za_|apply J24);(·rfl);(· (simp only[push_cast,↓JP,Nat.reduceAdd,Nat.reduceEqDiff,Nat.reduceLT,Nat.reduceMul,Nat.reduceLeDiff,reduceCtorEq,reduceIte,↓JK,↓JF,Int.toNat_natCast,Nat.sub_zero,hlim,hlp0,cTrB,hRr,←hFs,hDm,hb,hne,hj1,hq,hfl,hlz,hlp2];rfl));(try kernel_rfl);try exact k153_)|fail)
    apply At.endsRet za_ (fn:=Try.f11) (rs:=[.tmp 2]) Anc.refl hro (lb_ rfl) rfl
    ·simp only[push_cast,↓JP,Nat.reduceAdd,Nat.reduceEqDiff,Nat.reduceLT,Nat.reduceMul,Nat.reduceLeDiff,reduceCtorEq,reduceIte,↓JK,↓JF,resV,resV1,cB_eq,sB_eq,JE,JB,sAw19,sMd19,sCrG,sCrB,sTrS,sTrN,sFactsR,sDoomU,sNext,sCont,ls_prS,ls_prS',ls_prS2,ls_i64S,ls_i64S',i64S,y5_,y4_,iOf,Int.toNat_natCast,inR,inN,Nat.sub_zero,hlim,hlp0,cTrB,hRr,←hFs,hDm,hb,hne,hfl,hlz,hlp2];rfl
    ·exact k6_
    ·exact k7_
    ·rfl
    ·exact k152_
    ·exact k9_
    ·exact fun β=>rfl
    ·exact k152_
   ·obtain⟨t0,t1,t2⟩:=hT hq
    obtain⟨i0,i1,_⟩:=T.inr (R.tr.length - 1) (by omega)
    rw[t1]at i0 i1
    have hlm:((R.tr.length:Int) - 1).toNat=R.tr.length - 1:=by omega
    have hop:¬((zq_ xs).getD R.at_.toNat ⟨0,0,0,0,0⟩).op=1:=fun h=>hb (t2.1 h)
    repeat' (first|refine Ctl.h ?_ |((with_reducible intro hif);first |(focus (cases hif;done)) |((try simp only[JH]at hif);try exact hy_)) |((with_reducible first|apply J22 cTrB_ok za_|apply J23 fol cTrB_ok za_|apply J24);(·rfl);(· (simp only[push_cast,↓JP,Nat.reduceAdd,Nat.reduceEqDiff,Nat.reduceLT,Nat.reduceMul,Nat.reduceLeDiff,reduceCtorEq,reduceIte,↓JK,↓JF,Int.toNat_natCast,Nat.sub_zero,hlim,hlp0,cTrB,hRr,←hFs,hDm,hb,hne,hj1,hq,t0,t1,hlm,hop];rfl));(try kernel_rfl);try exact k153_)|fail)
    apply At.endsRet za_ (fn:=Try.f11) (rs:=[.tmp 2]) Anc.refl hro (lb_ rfl) rfl
    ·simp only[push_cast,↓JP,Nat.reduceAdd,Nat.reduceEqDiff,Nat.reduceLT,Nat.reduceMul,Nat.reduceLeDiff,reduceCtorEq,reduceIte,↓JK,↓JF,resV,resV1,cB_eq,sB_eq,JE,JB,sAw19,sMd19,sCrG,sCrB,sTrS,sTrN,sFactsR,sDoomU,sNext,sCont,ls_prS,ls_prS',ls_prS2,ls_i64S,ls_i64S',i64S,y5_,y4_,iOf,Int.toNat_natCast,inR,inN,Nat.sub_zero,hlim,hlp0,cTrB,hRr,←hFs,hDm,hb,hne,t0,t1,hlm,hop];rfl
    ·exact k6_
    ·exact k7_
    ·rfl
    ·exact k152_
    ·exact k9_
    ·exact fun β=>rfl
    ·exact k152_
 ·have hN0:R.tr.length=0:=by rw[List.isEmpty_iff]at hne;rw[hne];rfl
  have hq:R.bad=190:=by
   by_cases q:R.bad=190
   ·exact q
   ·have:=(hT q).1;omega
  have hfl:=hfu hq
  have hz:fuel.tmod 512=0:=by omega
  have hat:=hz0 hz
  refine zm_ (fn:=Try.f11) 5 205 0 rfl rfl rfl rfl rfl u12_ rfl fun w0 M E hro=>?_
  repeat' (first|refine Ctl.h ?_ |((with_reducible intro hif);first |(focus (cases hif;done)) |((try simp only[JH]at hif);try exact hy_)) |((with_reducible first|apply J22 cTrN_ok za_|apply J23 fol cTrN_ok za_|apply J24);(·rfl);(· (simp only[push_cast,↓JP,Nat.reduceAdd,Nat.reduceEqDiff,Nat.reduceLT,Nat.reduceMul,Nat.reduceLeDiff,reduceCtorEq,reduceIte,↓JK,↓JF,Int.toNat_natCast,Nat.sub_zero,hlim,hlp0,cTrN,hRr,←hFs,hDm,hb,hne];rfl));(try kernel_rfl);try exact k153_)|fail)
  refine WF.loopAt (fun (j:Nat)=>j≤R.tr.length) (fun (j:Nat)=>[(3,.ptr 8 []),(4,.ptr 9 []),(5,.int .i64 (R.bad)),(6,.sl 0 0 [] 0 0 0 (some 0)),(8,.sl 10 10 [] 17 0 (zq_ xs).length none),(10,.sl 11 11 [] 1 0 Dm.length none),(90,.sl 0 0 [] 0 0 0 (some 0)),(91,.nat .i64 0),(92,.nat .i64 j)]) (fun (j:Nat)=>[.gone,.gone,.ro (.arr xs.length 5 (prS xs)),.gone,.ro (.arr cs.length 1 (i64S cs)),.gone,.own 73 (.arr (zq_ xs).length 5 (prS (zq_ xs))) false,.own 2 (.arr (cs.take 12).length 1 (i64S (cs.take 12))) false,.own 41 (.agg [.sl 6 6 [] 5 0 (zq_ xs).length none,.agg [.int .u64 v.seed,.int .i64 (IntKind.wrap .u16 v.process),.int .i64 ((IntKind.wrap .u8 v.ports).tmod 17),.int .i64 (1+IntKind.wrap .u8 v.look),.int .i64 time],.agg [.agg [.int .i64 time,.int .i64 source,.int .i64 1],.int .i64 0,.int .i64 value],.sl 7 7 [] 1 0 (cs.take 12).length none,.int .i64 d,.int .i64 (fuel.tmod 512)]) true,.own 45 (.agg [.nat .i64 R.tr.length,.int .i64 R.at_,.sl 0 0 [] 0 0 0 (some 0),.nat .i64 0,.sl 0 0 [] 0 0 0 (some 0)]) true,.own 113 (.arr (zq_ xs).length 17 (ftsS Fs)) false,.own 3 (.arr Dm.length 1 (i64S Dm)) false]) (fun (j:Nat)=>R.tr.length - j) 0 (Nat.zero_le _) ?_ ?_ rfl ?_ ?_ rfl ?_
  ·exact k28_
  ·exact k7_
  ·exact k152_
  ·exact k152_
  intro j hj
  by_cases hj1:j < R.tr.length
  ·rw[hN0]at hj1;exact absurd hj1 (Nat.not_lt_zero j)
  ·obtain rfl:j=R.tr.length:=by omega
   repeat' (first|refine Ctl.h ?_ |((with_reducible intro hif);first |(focus (cases hif;done)) |((try simp only[JH]at hif);try exact hy_)) |((with_reducible first|apply J22 cTrN_ok za_|apply J23 fol cTrN_ok za_|apply J24);(·rfl);(· (simp only[push_cast,↓JP,Nat.reduceAdd,Nat.reduceEqDiff,Nat.reduceLT,Nat.reduceMul,Nat.reduceLeDiff,reduceCtorEq,reduceIte,↓JK,↓JF,Int.toNat_natCast,Nat.sub_zero,hlim,hlp0,cTrN,hRr,←hFs,hDm,hb,hne,hj1,hN0,hq,hz,hat];rfl));(try kernel_rfl);try exact k153_)|fail)
   apply At.endsRet za_ (fn:=Try.f11) (rs:=[.tmp 2]) Anc.refl hro (lb_ rfl) rfl
   ·simp only[push_cast,↓JP,Nat.reduceAdd,Nat.reduceEqDiff,Nat.reduceLT,Nat.reduceMul,Nat.reduceLeDiff,reduceCtorEq,reduceIte,↓JK,↓JF,resV,resV1,cB_eq,sB_eq,JE,JB,sAw19,sMd19,sCrG,sCrB,sTrS,sTrN,sFactsR,sDoomU,sNext,sCont,ls_prS,ls_prS',ls_prS2,ls_i64S,ls_i64S',i64S,y5_,y4_,iOf,Int.toNat_natCast,inR,inN,Nat.sub_zero,hlim,hlp0,cTrN,hRr,←hFs,hDm,hb,hne,hN0];rfl
   ·exact k6_
   ·exact k7_
   ·rfl
   ·exact k152_
   ·exact k9_
   ·exact fun β=>rfl
   ·exact k152_
end Go.Proofs.Ytjliakjbdcplcaa.Vm
end

import Derived.Test.YtjliakjbdcplcaaU1
import Derived.Test.YtjliakjbdcplcaaU22
import Derived.Test.YtjliakjbdcplcaaU23
set_option linter.unusedSimpArgs false
set_option linter.unusedVariables false
set_option maxRecDepth 100000
set_option maxHeartbeats 4000000
section
open Go.Proofs.Ytjliakjbdcplcaa.Vm Go.RowKit
attribute [local push_cast] eqB eqBL allB prS zt_ i64S xo_ y3_ y2_ y1_ y0_ yz_ xn_ yy_ yx_ yw_ zy_ zv_ zw_ zu_ y5_ y4_ iOf
section
namespace Go.Proofs.Ytjliakjbdcplcaa.Vm
open Go.RowKit
def cM18:FuncId→Option yr_:=xb_ [(50,sCl64)]
theorem cM18_ok:∀f S,cM18 f=some S→zh_ Try.prog f S:=zn_ ⟨sCl64_ok,trivial⟩
theorem env_lit (a b c d e:Int)(hb:0≤b∧b≤65535)(hc:0≤c∧c≤255)(hd:0≤d∧d≤255)(he:0≤e∧e≤4294967295):yc_ Try.prog 41 [.int .u64 a,.int .u16 b,.int .u8 c,.int .u8 d,.int .u32 e] [.gone] (.agg [.int .u64 a,.int .i64 b,.int .i64 (c.tmod 17),.int .i64 (1+d),.int .i64 e]) [.gone]:=by
 refine zm_ (fn:=Try.f41) 1 23 0 rfl rfl rfl rfl rfl u11_ rfl fun w0 M E hro=>?_
 repeat' (first|refine Ctl.h ?_ |((with_reducible intro hif);first |(focus (cases hif;done)) |((try simp only[JH]at hif);try exact hy_)) |((with_reducible first|apply J22 cM18_ok za_|apply J23 fol cM18_ok za_|apply J24);(·rfl);(· exact k26_);(try kernel_rfl);try exact k12_)|fail)
 apply At.endsRet za_ (fn:=Try.f41) (rs:=[.cell 10 30]) Anc.refl hro (lb_ rfl) rfl
 ·exact k5_
 ·exact k6_
 ·exact k7_
 ·rfl
 ·exact k82_
 ·exact k9_
 ·exact fun β=>rfl
 ·exact k82_
def sEnv18:yr_:=fun args h m=>match args with
 | [v1,v2,v3,v4,v5]=>bif isI .u64 v1 && isI .u16 v2 && isI .u8 v3 && isI .u8 v4 && isI .u32 v5 then some ((0≤(iOf v2)∧(iOf v2)≤65535)∧(0≤(iOf v3)∧(iOf v3)≤255)∧(0≤(iOf v4)∧(iOf v4)≤255)∧(0≤(iOf v5)∧(iOf v5)≤4294967295),.agg [.int .u64 (iOf v1),.int .i64 (iOf v2),.int .i64 ((iOf v3).tmod 17),.int .i64 (1+(iOf v4)),.int .i64 (iOf v5)],[],[])else none
 | _=>none
theorem sEnv18_ok:zh_ Try.prog 41 sEnv18:=by
 refine⟨zf_ (by kernel_rfl),fun args h m c v rd wr hs hm hc w0 M β h' w R hrd hwr hst=>?_⟩
 unfold sEnv18 at hs
 split at hs
 ·rename_i v1 v2 v3 v4 v5
  obtain⟨hb,hs⟩:=zj_ hs
  simp only[Option.some.injEq,Prod.mk.injEq]at hs
  obtain⟨rfl,rfl,rfl,rfl⟩:=hs
  simp only[Bool.and_eq_true]at hb
  obtain⟨⟨⟨⟨b1,b2⟩,b3⟩,b4⟩,b5⟩:=hb
  obtain⟨y1,y2,y3,y4⟩:=hc
  refine y9_ (views:=[]) (env_lit (iOf v1) (iOf v2) (iOf v3) (iOf v4) (iOf v5) y1 y2 y3 y4) ?_ R hm hwr ?_ ?_ ?_
  ·intro x hx;cases hx
  ·intro β1 hv
   simp only[denL,yp_,yo_,yn_,z6_,zb_,zc_ b1,zc_ b2,zc_ b3,zc_ b4,zc_ b5]
  ·exact k82_
  ·exact k82_
 ·cases hs
def nilS (D:List Snd)(b:Nat):SV:=SV.ite D.isEmpty (.sl 0 0 [] 0 0 0 (some 0)) (.sl b b [] 3 0 D.length none)
theorem nilS_t {D:List Snd}{b:Nat}(h:D.isEmpty=true):nilS D b=.sl 0 0 [] 0 0 0 (some 0):=by unfold nilS;rw[h];rfl
theorem nilS_f {D:List Snd}{b:Nat}(h:D.isEmpty=false):nilS D b=.sl b b [] 3 0 D.length none:=by unfold nilS;rw[h];rfl
def mSnd (n:Nat):List Snd:=(List.range n).map fun i:Nat=>⟨(i:Int),(i:Int),1⟩
theorem mSnd_len (n:Nat):(mSnd n).length=n:=by simp[mSnd]
theorem mSnd_succ (n:Nat):mSnd (n+1)=mSnd n++[⟨n,n,1⟩]:=by simp[mSnd,List.range_succ]
theorem ls_take (cs:List Int)(k:Nat)(hk:k≤cs.length):ls iOf k (i64S cs)=cs.take k:=by
 apply List.ext_getElem
 ·rw[zb_,List.length_take,Nat.min_eq_left hk]
 ·intro i h1 h2
  rw[zb_]at h1
  have:=ls_getD (g:=iOf) (f:=i64S cs) (d:=0) h1
  rw[List.getD_eq_getElem?_getD,List.getElem?_eq_getElem (by rw[zb_];exact h1)]at this
  simp only[Option.getD_some]at this
  rw[this]
  show cs.getD i 0=_
  rw[List.getD_eq_getElem?_getD,List.getElem?_eq_getElem (by omega),List.getElem_take]
  rfl
theorem made18_lit (a d s:Int)(rg:Nat→Int)(cs:List Int)(P:List Ins)(hP:P.length≤1000000)(p p2:Nat)(hcp:cs.length≤p)(ha:0≤a∧a≤255)(hd:0≤d∧d≤4294967295)(hs:0≤s∧s≤255):yc_ Try.prog 40 [.agg [.int .u8 a,.arr 8 1 (fun q=>.int .i64 (rg q)),.sl 1 2 [] 1 0 cs.length (some p),.int .u32 d,.int .u8 s],.sl 3 4 [] 5 0 P.length (some p2)] [.gone,.gone,.ro (.arr cs.length 1 (i64S cs)),.gone,.ro (.arr P.length 5 (prS P))]
  (.agg [.int .i64 (a.tmod ((max P.length 1:Nat):Int)),.bool false,.arr 8 1 (fun q=>.int .i64 (rg q)),.sl 5 5 [] 1 0 (cs.take 12).length none,.int .i64 d,nilS (mSnd (s.tmod 21).toNat) 6]) [.gone,.gone,.gone,.gone,.gone,.own 2 (.arr (cs.take 12).length 1 (i64S (cs.take 12))) false,.own 64 (.arr (mSnd (s.tmod 21).toNat).length 3 (zt_ (mSnd (s.tmod 21).toNat))) false]:=by
 have hk0:=Int.tmod_nonneg 21 hs.1
 have hk1:=Int.tmod_lt_of_pos s (show (0:Int) < 21 by decide)
 have hm1:(cs.take 12).length=min cs.length 12:=by rw[List.length_take,Nat.min_comm]
 have hm2:=ls_take cs (min cs.length 12) (Nat.min_le_left _ _)
 have hm3:cs.take (min cs.length 12)=cs.take 12:=by
  rcases Nat.le_total cs.length 12 with h|h
  ·rw[Nat.min_eq_left h,List.take_of_length_le (Nat.le_refl _),List.take_of_length_le h]
  ·rw[Nat.min_eq_right h]
 rw[hm3]at hm2
 have hm2':ls iOf (min cs.length 12) (fun q=>.int .i64 (cs.getD q 0))=cs.take 12:=hm2
 refine zm_ (fn:=Try.f40) 5 45 0 rfl rfl rfl rfl rfl u11_ rfl fun w0 M E hro=>?_
 repeat' (first|refine Ctl.h ?_ |((with_reducible intro hif);first |(focus (cases hif;done)) |((try simp only[JH]at hif);try exact hy_)) |((with_reducible first|apply J22 cM18_ok za_|apply J23 fol cM18_ok za_|apply J24);(·rfl);(· (simp only[push_cast,↓JP,Nat.reduceAdd,Nat.reduceEqDiff,Nat.reduceLT,Nat.reduceMul,Nat.reduceLeDiff,reduceCtorEq,reduceIte,↓JK,JM,JE,cM18,sCl64,inR,inN,Nat.sub_zero,hm2,hm2'];rfl));(try kernel_rfl);try exact k12_)|fail)
 refine WF.empty 64 3 (zt_ []) (fun _ q=>sndsS_stable q) ?_
 refine WF.loopAt (fun (j:Nat)=>j≤(s.tmod 21).toNat) (fun (j:Nat)=>[(2,.ptr 5 []),(4,.ptr 6 []),(5,.ptr 9 []),(31,.int .i64 (s.tmod 21)),(32,.nat .i64 j)]) (fun (j:Nat)=>[.gone,.gone,.ro (.arr cs.length 1 (i64S cs)),.gone,.ro (.arr P.length 5 (prS P)),.gone,.own 58 (.agg [.nat .i64 0,.bool false,.arr 8 1 (fun x=>.nat .i64 0),.sl 0 0 [] 0 0 0 (some 0),.nat .i64 0,.sl 0 0 [] 0 0 0 (some 0)]) true,.gone,.own 2 (.arr (min cs.length 12) 1 (i64S (cs.take 12))) false,.own 58 (.agg [.int .i64 (a.tmod ((max P.length 1:Nat):Int)),.bool false,.arr 8 1 (fun q=>.int .i64 (rg q)),.sl 8 8 [] 1 0 (min cs.length 12) none,.int .i64 d,nilS (mSnd j) 10]) true,.own 64 (.arr (mSnd j).length 3 (zt_ (mSnd j))) false]) (fun (j:Nat)=>(s.tmod 21).toNat - j) 0 (Nat.zero_le _) ?_ ?_ rfl ?_ ?_ rfl ?_
 ·exact k28_
 ·exact k7_
 ·exact k82_
 ·exact k82_
 intro j hj
 by_cases hlt:j < (s.tmod 21).toNat
 ·have hlt2:(j:Int) < s.tmod 21:=by omega
  have hne:(mSnd (j+1)).isEmpty=false:=by rw[mSnd_succ];cases mSnd j<;>rfl
  have hY:∀σ,Less (.own 64 (.arr ((mSnd j).length+1) 3 fun q=>SV.ite (decide (q < (mSnd j).length)) (sndS ((mSnd j).getD q ⟨0,0,0⟩)) ([SV.agg [.nat .i64 j,.nat .i64 j,.nat .i64 1]].getD (q - (mSnd j).length) (.agg [.nat .i64 0,.nat .i64 0,.nat .i64 0]))) false) ((HB.own 64 (.arr (mSnd (j+1)).length 3 (zt_ (mSnd (j+1)))) false).ren σ):=fun σ=>by
   rw[mSnd_succ]
   refine less_snd (mSnd j) ⟨j,j,1⟩ rfl fun q hq β=>?_
   rw[ite_eq]
   by_cases h:q < (mSnd j).length
   ·simp only[h,decide_true,cond_true,List.getD_eq_getElem?_getD,List.getElem?_append_left h]
    rw[isSnd_cl (zw_ _),zu_]
   ·obtain rfl:q=(mSnd j).length:=by omega
    simp only[Nat.lt_irrefl,decide_false,cond_false,Nat.sub_self,List.getD_eq_getElem?_getD,List.getElem?_append_right (Nat.le_refl _),List.getElem?_cons_zero,Option.getD_some]
    rfl
  by_cases h0:j=0
  ·subst h0
   rw[show nilS (mSnd 0) 10=.sl 0 0 [] 0 0 0 (some 0) from rfl]
   have hY0:∀σ,Less (.own 64 (.arr (0+1) 3 fun q=>[SV.agg [.nat .i64 (0:Nat),.nat .i64 (0:Nat),.nat .i64 1]].getD q (.agg [.nat .i64 0,.nat .i64 0,.nat .i64 0])) false) ((HB.own 64 (.arr (mSnd (0+1)).length 3 (zt_ (mSnd (0+1)))) false).ren σ):=fun σ=>by
    rw[mSnd_succ]
    refine less_snd (mSnd 0) ⟨0,0,1⟩ rfl fun q hq β=>?_
    obtain rfl:q=0:=by simp[mSnd]at hq;omega
    rfl
   repeat' (first|refine Ctl.h ?_ |((with_reducible intro hif);first |(focus (cases hif;done)) |((try simp only[JH]at hif);try exact hy_)) |((with_reducible first|apply J22 cM18_ok za_|apply J23 fol cM18_ok za_|apply J24);(·rfl);(· exact k85_);(try kernel_rfl);try exact k12_)|fail)
   refine At.nextPick [0,1,2,3,4,5,6,7,8,9,12] 1 ?_ rfl rfl rfl ?_ rfl ?_ ?_ ?_ rfl
   ·exact⟨hlt,by omega⟩
   ·exact k83_
   ·exact k82_
   ·exact k45_
   ·exact k82_
  ·have hnj:(mSnd j).isEmpty=false:=by
    obtain⟨k,rfl⟩:∃k,j=k+1:=⟨j - 1,by omega⟩
    rw[mSnd_succ];cases mSnd k<;>rfl
   rw[nilS_f hnj]
   have hln:(mSnd j).length≤21:=by rw[mSnd_len];omega
   repeat' (first|refine Ctl.h ?_ |((with_reducible intro hif);first |(focus (cases hif;done)) |((try simp only[JH]at hif);try exact hy_)) |((with_reducible first|apply J22 cM18_ok za_|apply J23 fol cM18_ok za_|apply J24);(·rfl);(· exact k85_);(try kernel_rfl);try exact k12_)|fail)
   refine At.nextPick [0,1,2,3,4,5,6,7,8,9,12] (j+1) ?_ rfl rfl rfl ?_ rfl ?_ ?_ ?_ rfl
   ·exact⟨hlt,by omega⟩
   ·exact k83_
   ·exact k82_
   ·exact k45_
   ·exact k82_
 ·obtain rfl:j=(s.tmod 21).toNat:=by omega
  have hlt2:¬((s.tmod 21).toNat:Int) < s.tmod 21:=by omega
  cases hnj:(mSnd (s.tmod 21).toNat).isEmpty
  ·rw[nilS_f hnj,nilS_f hnj]
   repeat' (first|refine Ctl.h ?_ |((with_reducible intro hif);first |(focus (cases hif;done)) |((try simp only[JH]at hif);try exact hy_)) |((with_reducible first|apply J22 cM18_ok za_|apply J23 fol cM18_ok za_|apply J24);(·rfl);(· exact k85_);(try kernel_rfl);try exact k12_)|fail)
   apply At.endsPick [0,1,2,3,4,8,10] za_ (fn:=Try.f40) (rs:=[.cell 4 58]) Anc.refl hro (lb_ rfl) rfl
   ·exact k5_
   ·exact yq_
   ·rfl
   ·rfl
   ·rfl
   ·exact k83_
   ·rfl
   ·exact k82_
   ·exact k9_
   ·exact fun β=>by rw[hm1];rfl
   ·exact k82_
  ·rw[nilS_t hnj,nilS_t hnj]
   repeat' (first|refine Ctl.h ?_ |((with_reducible intro hif);first |(focus (cases hif;done)) |((try simp only[JH]at hif);try exact hy_)) |((with_reducible first|apply J22 cM18_ok za_|apply J23 fol cM18_ok za_|apply J24);(·rfl);(· exact k85_);(try kernel_rfl);try exact k12_)|fail)
   apply At.endsPick [0,1,2,3,4,8,10] za_ (fn:=Try.f40) (rs:=[.cell 4 58]) Anc.refl hro (lb_ rfl) rfl
   ·exact k5_
   ·exact yq_
   ·rfl
   ·rfl
   ·rfl
   ·exact k83_
   ·rfl
   ·exact k82_
   ·exact k9_
   ·exact fun β=>by rw[hm1];rfl
   ·exact k82_
theorem made18N (a d s:Int)(rg:Nat→Int)(cs:List Int)(P:List Ins)(hP:P.length≤1000000)(p p2:Nat)(hcp:cs.length≤p)(ha:0≤a∧a≤255)(hd:0≤d∧d≤4294967295)(hs:0≤s∧s≤255)(hm:(mSnd (s.tmod 21).toNat).isEmpty=true):yc_ Try.prog 40 [.agg [.int .u8 a,.arr 8 1 (fun q=>.int .i64 (rg q)),.sl 1 2 [] 1 0 cs.length (some p),.int .u32 d,.int .u8 s],.sl 3 4 [] 5 0 P.length (some p2)] [.gone,.gone,.ro (.arr cs.length 1 (i64S cs)),.gone,.ro (.arr P.length 5 (prS P))]
  (.agg [.int .i64 (a.tmod ((max P.length 1:Nat):Int)),.bool false,.arr 8 1 (fun q=>.int .i64 (rg q)),.sl 5 5 [] 1 0 (cs.take 12).length none,.int .i64 d,.sl 0 0 [] 0 0 0 (some 0)]) [.gone,.gone,.gone,.gone,.gone,.own 2 (.arr (cs.take 12).length 1 (i64S (cs.take 12))) false]:=by
 have H:=made18_lit a d s rg cs P hP p p2 hcp ha hd hs
 rw[nilS_t hm]at H
 intro w0 M β w R
 refine(H w0 M β w R).mono fun e w' ⟨β',h1,h2,h3,h4⟩=>⟨β',h1,h2.less (fun i=>?_) rfl (fun i=>?_),?_,h4⟩
 ·rcases i with _|_|_|_|_|_|i
  ·exact .same _
  ·exact .same _
  ·exact .same _
  ·exact .same _
  ·exact .same _
  ·exact .same _
  ·exact .dead _
 ·rcases i with _|_|_|_|_|_|i
  ·trivial
  ·trivial
  ·trivial
  ·trivial
  ·trivial
  ·exact fun q=>i64S_stable q
  ·trivial
 ·simp[Stable,zd_,hp,HB.born]
theorem made18S (a d s:Int)(rg:Nat→Int)(cs:List Int)(P:List Ins)(hP:P.length≤1000000)(p p2:Nat)(hcp:cs.length≤p)(ha:0≤a∧a≤255)(hd:0≤d∧d≤4294967295)(hs:0≤s∧s≤255)(hm:(mSnd (s.tmod 21).toNat).isEmpty=false):yc_ Try.prog 40 [.agg [.int .u8 a,.arr 8 1 (fun q=>.int .i64 (rg q)),.sl 1 2 [] 1 0 cs.length (some p),.int .u32 d,.int .u8 s],.sl 3 4 [] 5 0 P.length (some p2)] [.gone,.gone,.ro (.arr cs.length 1 (i64S cs)),.gone,.ro (.arr P.length 5 (prS P))]
  (.agg [.int .i64 (a.tmod ((max P.length 1:Nat):Int)),.bool false,.arr 8 1 (fun q=>.int .i64 (rg q)),.sl 5 5 [] 1 0 (cs.take 12).length none,.int .i64 d,.sl 6 6 [] 3 0 (mSnd (s.tmod 21).toNat).length none]) [.gone,.gone,.gone,.gone,.gone,.own 2 (.arr (cs.take 12).length 1 (i64S (cs.take 12))) false,.own 64 (.arr (mSnd (s.tmod 21).toNat).length 3 (zt_ (mSnd (s.tmod 21).toNat))) false]:=by
 have H:=made18_lit a d s rg cs P hP p p2 hcp ha hd hs
 rwa [nilS_f hm]at H
def sMd18N:yr_:=fun args h m=>match args with
 | [.agg [v1,.arr 8 1 v2,v3,v4,v5],v6]=>match srcV h 1 (.tup []) v3,srcV h 5 (.tup []) v6 with
  | some (c3,n3,f3,r3),some (c6,n6,f6,r6)=>bif isI .u8 v1 && isI .u32 v4 && isI .u8 v5 then some (c3∧c6∧(∀q,q < n3→isI .i64 (f3 q)=true)∧(∀q,q < n6→isIns (f6 q)=true)∧(∀q,q < 8→isI .i64 (v2 q)=true)∧(0≤(iOf v1)∧(iOf v1)≤255)∧(0≤(iOf v4)∧(iOf v4)≤4294967295)∧(0≤(iOf v5)∧(iOf v5)≤255)∧(n6≤1000000)∧((mSnd ((iOf v5).tmod 21).toNat).isEmpty=true),.agg [.int .i64 ((iOf v1).tmod ((max (ls zg_ n6 f6).length 1:Nat):Int)),.bool false,.arr 8 1 (fun q=>.int .i64 (iOf (v2 q))),.sl m m [] 1 0 ((ls iOf n3 f3).take 12).length none,.int .i64 (iOf v4),.sl 0 0 [] 0 0 0 (some 0)],r3++r6,[(m,.own 2 (.arr ((ls iOf n3 f3).take 12).length 1 (i64S ((ls iOf n3 f3).take 12))) false)])else none
  | _,_=>none
 | _=>none
theorem sMd18N_ok:zh_ Try.prog 40 sMd18N:=by
 refine⟨zf_ (by kernel_rfl),fun args h m c v rd wr hs hm hc w0 M β h' w R hrd hwr hst=>?_⟩
 unfold sMd18N at hs
 split at hs
 ·rename_i v1 v2 v3 v4 v5 v6
  split at hs
  ·rename_i c3 n3 f3 r3 c6 n6 f6 r6 a3 a6
   obtain⟨hb,hs⟩:=zj_ hs
   simp only[Option.some.injEq,Prod.mk.injEq]at hs
   obtain⟨rfl,rfl,rfl,rfl⟩:=hs
   simp only[Bool.and_eq_true]at hb
   obtain⟨⟨b1,b4⟩,b5⟩:=hb
   obtain⟨k3,k6,g3,g6,g2,y1,y2,y3,y4,y5⟩:=hc
   obtain⟨A3,p3,d3,e3,t3⟩:=zk_ R a3 k3 (fun i hi=>hrd i (List.mem_append_left _ hi)) (by omega)
   obtain⟨A6,p6,d6,e6,t6⟩:=zk_ R a6 k6 (fun i hi=>hrd i (List.mem_append_right _ hi)) (by omega)
   refine y9_ (views:=[⟨1,(ls iOf n3 f3).length,i64S (ls iOf n3 f3),A3,p3⟩,⟨5,(ls zg_ n6 f6).length,prS (ls zg_ n6 f6),A6,p6⟩]) (made18N (iOf v1) (iOf v4) (iOf v5) (fun q=>iOf (v2 q)) (ls iOf n3 f3) (ls zg_ n6 f6) (by rw[zb_];exact y4) p3 p6 (by rw[zb_];exact e3) y1 y2 y3 y5) ?_ R hm hwr ?_ ?_ ?_
   ·exact d29_
   ·exact d30_
   ·exact k82_
   ·exact k82_
  ·cases hs
 ·cases hs
def sMd18S:yr_:=fun args h m=>match args with
 | [.agg [v1,.arr 8 1 v2,v3,v4,v5],v6]=>match srcV h 1 (.tup []) v3,srcV h 5 (.tup []) v6 with
  | some (c3,n3,f3,r3),some (c6,n6,f6,r6)=>bif isI .u8 v1 && isI .u32 v4 && isI .u8 v5 then some (c3∧c6∧(∀q,q < n3→isI .i64 (f3 q)=true)∧(∀q,q < n6→isIns (f6 q)=true)∧(∀q,q < 8→isI .i64 (v2 q)=true)∧(0≤(iOf v1)∧(iOf v1)≤255)∧(0≤(iOf v4)∧(iOf v4)≤4294967295)∧(0≤(iOf v5)∧(iOf v5)≤255)∧(n6≤1000000)∧((mSnd ((iOf v5).tmod 21).toNat).isEmpty=false),.agg [.int .i64 ((iOf v1).tmod ((max (ls zg_ n6 f6).length 1:Nat):Int)),.bool false,.arr 8 1 (fun q=>.int .i64 (iOf (v2 q))),.sl m m [] 1 0 ((ls iOf n3 f3).take 12).length none,.int .i64 (iOf v4),.sl (m+1) (m+1) [] 3 0 (mSnd ((iOf v5).tmod 21).toNat).length none],r3++r6,[(m,.own 2 (.arr ((ls iOf n3 f3).take 12).length 1 (i64S ((ls iOf n3 f3).take 12))) false),(m+1,.own 64 (.arr (mSnd ((iOf v5).tmod 21).toNat).length 3 (zt_ (mSnd ((iOf v5).tmod 21).toNat))) false)])else none
  | _,_=>none
 | _=>none
theorem sMd18S_ok:zh_ Try.prog 40 sMd18S:=by
 refine⟨zf_ (by kernel_rfl),fun args h m c v rd wr hs hm hc w0 M β h' w R hrd hwr hst=>?_⟩
 unfold sMd18S at hs
 split at hs
 ·rename_i v1 v2 v3 v4 v5 v6
  split at hs
  ·rename_i c3 n3 f3 r3 c6 n6 f6 r6 a3 a6
   obtain⟨hb,hs⟩:=zj_ hs
   simp only[Option.some.injEq,Prod.mk.injEq]at hs
   obtain⟨rfl,rfl,rfl,rfl⟩:=hs
   simp only[Bool.and_eq_true]at hb
   obtain⟨⟨b1,b4⟩,b5⟩:=hb
   obtain⟨k3,k6,g3,g6,g2,y1,y2,y3,y4,y5⟩:=hc
   obtain⟨A3,p3,d3,e3,t3⟩:=zk_ R a3 k3 (fun i hi=>hrd i (List.mem_append_left _ hi)) (by omega)
   obtain⟨A6,p6,d6,e6,t6⟩:=zk_ R a6 k6 (fun i hi=>hrd i (List.mem_append_right _ hi)) (by omega)
   refine y9_ (views:=[⟨1,(ls iOf n3 f3).length,i64S (ls iOf n3 f3),A3,p3⟩,⟨5,(ls zg_ n6 f6).length,prS (ls zg_ n6 f6),A6,p6⟩]) (made18S (iOf v1) (iOf v4) (iOf v5) (fun q=>iOf (v2 q)) (ls iOf n3 f3) (ls zg_ n6 f6) (by rw[zb_];exact y4) p3 p6 (by rw[zb_];exact e3) y1 y2 y3 y5) ?_ R hm hwr ?_ ?_ ?_
   ·exact d29_
   ·exact d30_
   ·exact k82_
   ·exact k82_
  ·cases hs
 ·cases hs
theorem wrap_u16 (x:Int):0≤IntKind.wrap .u16 x∧IntKind.wrap .u16 x≤65535:=by
 unfold IntKind.wrap;simp[IntKind.bits,IntKind.signed];omega
theorem wrap_u8 (x:Int):0≤IntKind.wrap .u8 x∧IntKind.wrap .u8 x≤255:=by
 unfold IntKind.wrap;simp[IntKind.bits,IntKind.signed];omega
def capB:SV→Prop
 | .sl _ _ _ _ _ n (some cp)=>max n cp≤9223372036854775807
 | _=>False
theorem capB_le {v:SV}{β : Env}{A:Option Addr}{n p:Nat}(h:capB v)(d:v.den β = .slice A n p):p≤9223372036854775807:=by
 cases v with
 | sl z i pa k s n' c=>cases c with
  | none=>exact h.elim
  | some cp=>
   have h':max n' cp≤9223372036854775807:=h
   simp only[SV.den,Option.getD_some]at d
   injection d with _ _ h3
   omega
 | _=>exact h.elim
def cMd19N:FuncId→Option yr_:=xb_ [(41,sEnv18),(40,sMd18N),(42,sMd14)]
theorem cMd19N_ok:∀f S,cMd19N f=some S→zh_ Try.prog f S:=zn_ ⟨sEnv18_ok,sMd18N_ok,sMd14_ok,trivial⟩
theorem made19N (xs:List Ins)(a d sn time source value fuel:Int)(rg:Nat→Int)(cs:List Int)(v:Evi)(p1 p2:Nat)(hx:∀x∈xs,x.ok)(hcx:xs.length≤p1)(hcap:p1≤9223372036854775807)(hcp:cs.length≤p2)(ha:0≤a∧a≤255)(hd:0≤d∧d≤4294967295)(hs:0≤sn∧sn≤255)(ht:0≤time∧time≤4294967295)(hso:0≤source∧source≤255)(hf:0≤fuel∧fuel≤65535)(hm:(mSnd (sn.tmod 21).toNat).isEmpty=true):yc_ Try.prog 13
  [.agg [.sl 1 2 [] 5 0 xs.length (some p1),.agg [.int .u8 a,.arr 8 1 (fun q=>.int .i64 (rg q)),.sl 3 4 [] 1 0 cs.length (some p2),.int .u32 d,.int .u8 sn],.agg [.int .u64 v.seed,.int .i64 v.process,.int .i64 v.ports,.int .i64 v.look,.int .i64 v.now],.int .u32 time,.int .u8 source,.int .i64 value,.int .u16 fuel]]
  [.gone,.gone,.ro (.arr xs.length 5 (prS xs)),.gone,.ro (.arr cs.length 1 (i64S cs))]
  (.agg [.sl 5 5 [] 5 0 (zq_ xs).length none,.agg [.int .u64 v.seed,.int .i64 (IntKind.wrap .u16 v.process),.int .i64 ((IntKind.wrap .u8 v.ports).tmod 17),.int .i64 (1+IntKind.wrap .u8 v.look),.int .i64 time],.agg [.agg [.int .i64 time,.int .i64 source,.int .i64 1],.int .i64 0,.int .i64 value],.sl 6 6 [] 1 0 (cs.take 12).length none,.int .i64 d,.int .i64 (fuel.tmod 512)])
  [.gone,.gone,.gone,.gone,.gone,.own 73 (.arr (zq_ xs).length 5 (prS (zq_ xs))) false,.own 2 (.arr (cs.take 12).length 1 (i64S (cs.take 12))) false]:=by
 have w1:=wrap_u16 v.process
 have w2:=wrap_u8 v.ports
 have w3:=wrap_u8 v.look
 have hmx:max xs.length p1≤9223372036854775807:=by omega
 refine zm_ (fn:=Try.f13) 5 49 0 rfl rfl rfl rfl rfl u11_ rfl fun w0 M E hro=>?_
 repeat' (first|refine Ctl.h ?_ |((with_reducible intro hif);first |(focus (cases hif;done)) |((try simp only[JH]at hif);try exact hy_)) |((with_reducible first|apply J22 cMd19N_ok za_|apply J23 fol cMd19N_ok za_|apply J24);(·rfl);(· (simp only[push_cast,↓JP,Nat.reduceAdd,Nat.reduceEqDiff,Nat.reduceLT,Nat.reduceMul,Nat.reduceLeDiff,reduceCtorEq,reduceIte,↓JK,JM,JE,JB,cMd19N,sEnv18,sMd18N,sMd14,inR,inN,Nat.sub_zero,hm];rfl));(try kernel_rfl);try exact k86_)|fail)
 apply At.endsPick [0,1,2,3,4,10,7] za_ (fn:=Try.f13) (rs:=[.cell 2 41]) Anc.refl hro (lb_ rfl) rfl
 ·exact k5_
 ·exact yq_
 ·rfl
 ·rfl
 ·rfl
 ·exact k24_
 ·rfl
 ·exact k82_
 ·exact k9_
 ·exact fun β=>rfl
 ·exact k82_
def cMd19S:FuncId→Option yr_:=xb_ [(41,sEnv18),(40,sMd18S),(42,sMd14)]
theorem cMd19S_ok:∀f S,cMd19S f=some S→zh_ Try.prog f S:=zn_ ⟨sEnv18_ok,sMd18S_ok,sMd14_ok,trivial⟩
theorem made19S (xs:List Ins)(a d sn time source value fuel:Int)(rg:Nat→Int)(cs:List Int)(v:Evi)(p1 p2:Nat)(hx:∀x∈xs,x.ok)(hcx:xs.length≤p1)(hcap:p1≤9223372036854775807)(hcp:cs.length≤p2)(ha:0≤a∧a≤255)(hd:0≤d∧d≤4294967295)(hs:0≤sn∧sn≤255)(ht:0≤time∧time≤4294967295)(hso:0≤source∧source≤255)(hf:0≤fuel∧fuel≤65535)(hm:(mSnd (sn.tmod 21).toNat).isEmpty=false):yc_ Try.prog 13
  [.agg [.sl 1 2 [] 5 0 xs.length (some p1),.agg [.int .u8 a,.arr 8 1 (fun q=>.int .i64 (rg q)),.sl 3 4 [] 1 0 cs.length (some p2),.int .u32 d,.int .u8 sn],.agg [.int .u64 v.seed,.int .i64 v.process,.int .i64 v.ports,.int .i64 v.look,.int .i64 v.now],.int .u32 time,.int .u8 source,.int .i64 value,.int .u16 fuel]]
  [.gone,.gone,.ro (.arr xs.length 5 (prS xs)),.gone,.ro (.arr cs.length 1 (i64S cs))]
  (.agg [.sl 5 5 [] 5 0 (zq_ xs).length none,.agg [.int .u64 v.seed,.int .i64 (IntKind.wrap .u16 v.process),.int .i64 ((IntKind.wrap .u8 v.ports).tmod 17),.int .i64 (1+IntKind.wrap .u8 v.look),.int .i64 time],.agg [.agg [.int .i64 time,.int .i64 source,.int .i64 1],.int .i64 0,.int .i64 value],.sl 6 6 [] 1 0 (cs.take 12).length none,.int .i64 d,.int .i64 (fuel.tmod 512)])
  [.gone,.gone,.gone,.gone,.gone,.own 73 (.arr (zq_ xs).length 5 (prS (zq_ xs))) false,.own 2 (.arr (cs.take 12).length 1 (i64S (cs.take 12))) false]:=by
 have w1:=wrap_u16 v.process
 have w2:=wrap_u8 v.ports
 have w3:=wrap_u8 v.look
 have hmx:max xs.length p1≤9223372036854775807:=by omega
 refine zm_ (fn:=Try.f13) 5 49 0 rfl rfl rfl rfl rfl u11_ rfl fun w0 M E hro=>?_
 repeat' (first|refine Ctl.h ?_ |((with_reducible intro hif);first |(focus (cases hif;done)) |((try simp only[JH]at hif);try exact hy_)) |((with_reducible first|apply J22 cMd19S_ok za_|apply J23 fol cMd19S_ok za_|apply J24);(·rfl);(· (simp only[push_cast,↓JP,Nat.reduceAdd,Nat.reduceEqDiff,Nat.reduceLT,Nat.reduceMul,Nat.reduceLeDiff,reduceCtorEq,reduceIte,↓JK,JM,JE,JB,cMd19S,sEnv18,sMd18S,sMd14,inR,inN,Nat.sub_zero,hm];rfl));(try kernel_rfl);try exact k86_)|fail)
 apply At.endsPick [0,1,2,3,4,11,7] za_ (fn:=Try.f13) (rs:=[.cell 2 41]) Anc.refl hro (lb_ rfl) rfl
 ·exact k5_
 ·exact yq_
 ·rfl
 ·rfl
 ·rfl
 ·exact k24_
 ·rfl
 ·exact k82_
 ·exact k9_
 ·exact fun β=>rfl
 ·exact k82_
theorem made19 (xs:List Ins)(a d sn time source value fuel:Int)(rg:Nat→Int)(cs:List Int)(v:Evi)(p1 p2:Nat)(hx:∀x∈xs,x.ok)(hcx:xs.length≤p1)(hcap:p1≤9223372036854775807)(hcp:cs.length≤p2)(ha:0≤a∧a≤255)(hd:0≤d∧d≤4294967295)(hs:0≤sn∧sn≤255)(ht:0≤time∧time≤4294967295)(hso:0≤source∧source≤255)(hf:0≤fuel∧fuel≤65535):yc_ Try.prog 13
  [.agg [.sl 1 2 [] 5 0 xs.length (some p1),.agg [.int .u8 a,.arr 8 1 (fun q=>.int .i64 (rg q)),.sl 3 4 [] 1 0 cs.length (some p2),.int .u32 d,.int .u8 sn],.agg [.int .u64 v.seed,.int .i64 v.process,.int .i64 v.ports,.int .i64 v.look,.int .i64 v.now],.int .u32 time,.int .u8 source,.int .i64 value,.int .u16 fuel]]
  [.gone,.gone,.ro (.arr xs.length 5 (prS xs)),.gone,.ro (.arr cs.length 1 (i64S cs))]
  (.agg [.sl 5 5 [] 5 0 (zq_ xs).length none,.agg [.int .u64 v.seed,.int .i64 (IntKind.wrap .u16 v.process),.int .i64 ((IntKind.wrap .u8 v.ports).tmod 17),.int .i64 (1+IntKind.wrap .u8 v.look),.int .i64 time],.agg [.agg [.int .i64 time,.int .i64 source,.int .i64 1],.int .i64 0,.int .i64 value],.sl 6 6 [] 1 0 (cs.take 12).length none,.int .i64 d,.int .i64 (fuel.tmod 512)])
  [.gone,.gone,.gone,.gone,.gone,.own 73 (.arr (zq_ xs).length 5 (prS (zq_ xs))) false,.own 2 (.arr (cs.take 12).length 1 (i64S (cs.take 12))) false]:=by
 cases hm:(mSnd (sn.tmod 21).toNat).isEmpty
 ·exact made19S xs a d sn time source value fuel rg cs v p1 p2 hx hcx hcap hcp ha hd hs ht hso hf hm
 ·exact made19N xs a d sn time source value fuel rg cs v p1 p2 hx hcx hcap hcp ha hd hs ht hso hf hm
def sMd19:yr_:=fun args h m=>match args with
 | [.agg [v1,.agg [v2,.arr 8 1 v3,v4,v5,v6],.agg [v7,v8,v9,v10,v11],v12,v13,v14,v15]]=>match srcV h 5 (.tup []) v1,srcV h 1 (.tup []) v4 with
  | some (c1,n1,f1,r1),some (c4,n4,f4,r4)=>bif isI .u8 v2 && isI .u32 v5 && isI .u8 v6 && isI .u64 v7 && isI .i64 v8 && isI .i64 v9 && isI .i64 v10 && isI .i64 v11 && isI .u32 v12 && isI .u8 v13 && isI .i64 v14 && isI .u16 v15 then some (c1∧c4∧(∀q,q < n1→isIns (f1 q)=true)∧(∀q,q < n4→isI .i64 (f4 q)=true)∧(∀q,q < 8→isI .i64 (v3 q)=true)∧((∀x∈(ls zg_ n1 f1),x.ok))∧(capB v1)∧(0≤(iOf v2)∧(iOf v2)≤255)∧(0≤(iOf v5)∧(iOf v5)≤4294967295)∧(0≤(iOf v6)∧(iOf v6)≤255)∧(0≤(iOf v12)∧(iOf v12)≤4294967295)∧(0≤(iOf v13)∧(iOf v13)≤255)∧(0≤(iOf v15)∧(iOf v15)≤65535),.agg [.sl m m [] 5 0 (zq_ (ls zg_ n1 f1)).length none,.agg [.int .u64 (iOf v7),.int .i64 (IntKind.wrap .u16 (iOf v8)),.int .i64 ((IntKind.wrap .u8 (iOf v9)).tmod 17),.int .i64 (1+IntKind.wrap .u8 (iOf v10)),.int .i64 (iOf v12)],.agg [.agg [.int .i64 (iOf v12),.int .i64 (iOf v13),.int .i64 1],.int .i64 0,.int .i64 (iOf v14)],.sl (m+1) (m+1) [] 1 0 ((ls iOf n4 f4).take 12).length none,.int .i64 (iOf v5),.int .i64 ((iOf v15).tmod 512)],r1++r4,[(m,.own 73 (.arr (zq_ (ls zg_ n1 f1)).length 5 (prS (zq_ (ls zg_ n1 f1)))) false),(m+1,.own 2 (.arr ((ls iOf n4 f4).take 12).length 1 (i64S ((ls iOf n4 f4).take 12))) false)])else none
  | _,_=>none
 | _=>none
theorem sMd19_ok:zh_ Try.prog 13 sMd19:=by
 refine⟨zf_ (by kernel_rfl),fun args h m c v rd wr hs hm hc w0 M β h' w R hrd hwr hst=>?_⟩
 unfold sMd19 at hs
 split at hs
 ·rename_i v1 v2 v3 v4 v5 v6 v7 v8 v9 v10 v11 v12 v13 v14 v15
  split at hs
  ·rename_i c1 n1 f1 r1 c4 n4 f4 r4 a1 a4
   obtain⟨hb,hs⟩:=zj_ hs
   simp only[Option.some.injEq,Prod.mk.injEq]at hs
   obtain⟨rfl,rfl,rfl,rfl⟩:=hs
   simp only[Bool.and_eq_true]at hb
   obtain⟨⟨⟨⟨⟨⟨⟨⟨⟨⟨⟨b2,b5⟩,b6⟩,b7⟩,b8⟩,b9⟩,b10⟩,b11⟩,b12⟩,b13⟩,b14⟩,b15⟩:=hb
   obtain⟨k1,k4,g1,g4,g3,y1,y2,y3,y4,y5,y6,y7,y8⟩:=hc
   obtain⟨A1,p1,d1,e1,t1⟩:=zk_ R a1 k1 (fun i hi=>hrd i (List.mem_append_left _ hi)) (by omega)
   obtain⟨A4,p4,d4,e4,t4⟩:=zk_ R a4 k4 (fun i hi=>hrd i (List.mem_append_right _ hi)) (by omega)
   refine y9_ (views:=[⟨5,(ls zg_ n1 f1).length,prS (ls zg_ n1 f1),A1,p1⟩,⟨1,(ls iOf n4 f4).length,i64S (ls iOf n4 f4),A4,p4⟩]) (made19 (ls zg_ n1 f1) (iOf v2) (iOf v5) (iOf v6) (iOf v12) (iOf v13) (iOf v14) (iOf v15) (fun q=>iOf (v3 q)) (ls iOf n4 f4) ⟨(iOf v7),(iOf v8),(iOf v9),(iOf v10),(iOf v11)⟩ p1 p4 y1 (by rw[zb_];exact e1) (capB_le y2 d1) (by rw[zb_];exact e4) y3 y4 y5 y6 y7 y8) ?_ R hm hwr ?_ ?_ ?_
   ·intro x hx
    simp only[List.mem_cons,List.not_mem_nil,or_false]at hx
    rcases hx with rfl|rfl
    ·exact xq_ t1 e1 g1
    ·exact xl_ t4 e4 g4
   ·intro β1 hv
    simp only[Vd,zb_,and_true]at hv
    obtain⟨z1,z4⟩:=hv
    simp only[denL,yp_,yo_,yn_,z6_,zb_,z1,z4,d1,d4,zc_ b2,zc_ b5,zc_ b6,zc_ b7,zc_ b8,zc_ b9,zc_ b10,zc_ b11,zc_ b12,zc_ b13,zc_ b14,zc_ b15,←r8Den (β:=β) (β1:=β1) g3]
   ·exact k82_
   ·exact k82_
  ·cases hs
 ·cases hs
def cCrG:FuncId→Option yr_:=xb_ [(29,sRunG)]
theorem cCrG_ok:∀f S,cCrG f=some S→zh_ Try.prog f S:=zn_ ⟨sRunG_ok,trivial⟩
theorem crunG (P:List Ins)(v:Evi)(t s q o y d f0 f:Int)(cs:List Int)(p1 p2:Nat)(hP:∀x∈P,x.ok)(hn:P.length≤1000000)(hc:cs.length≤1000000)(hb:(xd_ P v (ya_ y t s cs d) f).bad=0):yc_ Try.prog 14 [.agg [.sl 1 2 [] 5 0 P.length (some p1),.agg [.int .u64 v.seed,.int .i64 v.process,.int .i64 v.ports,.int .i64 v.look,.int .i64 v.now],.agg [.agg [.int .i64 t,.int .i64 s,.int .i64 q],.int .i64 o,.int .i64 y],.sl 3 4 [] 1 0 cs.length (some p2),.int .i64 d,.int .i64 f0],.int .i64 f]
  [.gone,.gone,.ro (.arr P.length 5 (prS P)),.gone,.ro (.arr cs.length 1 (i64S cs))]
  (.tup [.agg [.nat .i64 (xd_ P v (ya_ y t s cs d) f).tr.length,.int .i64 (xd_ P v (ya_ y t s cs d) f).at_,.sl 5 5 [] 1 0 (xd_ P v (ya_ y t s cs d) f).s.cells.length none,.int .i64 (xd_ P v (ya_ y t s cs d) f).s.draws,.sl 6 6 [] 3 0 (xd_ P v (ya_ y t s cs d) f).s.sends.length none],.int .i64 0]) [.gone,.gone,.gone,.gone,.gone,cB (xd_ P v (ya_ y t s cs d) f).s,sB (xd_ P v (ya_ y t s cs d) f).s]:=by
 refine zm_ (fn:=Try.f14) 5 20 0 rfl rfl rfl rfl rfl (by simp only[zd_,Stable,hp,i64S,prS,insS,zt_,sndS,stS,evS,macS,cB,sB,HB.stable];simp[HB.born]) rfl fun w0 M E hro=>?_
 repeat' (first|refine Ctl.h ?_ |((with_reducible intro hif);first |(focus (cases hif;done)) |((try simp only[JH]at hif);try exact hy_)) |((with_reducible first|apply J22 cCrG_ok za_|apply J23 fol cCrG_ok za_|apply J24);(·rfl);(· (simp only[push_cast,↓JP,Nat.reduceAdd,Nat.reduceEqDiff,Nat.reduceLT,Nat.reduceMul,Nat.reduceLeDiff,reduceCtorEq,reduceIte,↓JK,JE,JB,cCrG,sRunG,inR,inN,hb];rfl));(try kernel_rfl);try exact k87_)|fail)
 apply At.endsPick [0,1,2,3,4,7,8] za_ (fn:=Try.f14) (rs:=[.cell 4 45,.tmp 5]) Anc.refl hro (lb_ rfl) rfl
 ·exact k5_
 ·exact yq_
 ·rfl
 ·rfl
 ·rfl
 ·exact k24_
 ·rfl
 ·exact k84_
 ·exact k9_
 ·exact fun β=>rfl
 ·exact k84_
def sCrG:yr_:=fun args h m=>match args with
 | [.agg [v1,.agg [v2,v3,v4,v5,v6],.agg [.agg [v7,v8,v9],v10,v11],v12,v13,v14],v15]=>match srcV h 5 (.tup []) v1,srcV h 1 (.tup []) v12 with
  | some (c1,n1,f1,r1),some (c12,n12,f12,r12)=>bif isI .u64 v2 && isI .i64 v3 && isI .i64 v4 && isI .i64 v5 && isI .i64 v6 && isI .i64 v7 && isI .i64 v8 && isI .i64 v9 && isI .i64 v10 && isI .i64 v11 && isI .i64 v13 && isI .i64 v14 && isI .i64 v15 then some (c1∧c12∧(∀q,q < n1→isIns (f1 q)=true)∧(∀q,q < n12→isI .i64 (f12 q)=true)∧((∀x∈(ls zg_ n1 f1),x.ok))∧(n1≤1000000)∧(n12≤1000000)∧((xd_ (ls zg_ n1 f1) ⟨(iOf v2),(iOf v3),(iOf v4),(iOf v5),(iOf v6)⟩ (ya_ (iOf v11) (iOf v7) (iOf v8) (ls iOf n12 f12) (iOf v13)) (iOf v15)).bad=0),.tup [.agg [.nat .i64 (xd_ (ls zg_ n1 f1) ⟨(iOf v2),(iOf v3),(iOf v4),(iOf v5),(iOf v6)⟩ (ya_ (iOf v11) (iOf v7) (iOf v8) (ls iOf n12 f12) (iOf v13)) (iOf v15)).tr.length,.int .i64 (xd_ (ls zg_ n1 f1) ⟨(iOf v2),(iOf v3),(iOf v4),(iOf v5),(iOf v6)⟩ (ya_ (iOf v11) (iOf v7) (iOf v8) (ls iOf n12 f12) (iOf v13)) (iOf v15)).at_,.sl m m [] 1 0 (xd_ (ls zg_ n1 f1) ⟨(iOf v2),(iOf v3),(iOf v4),(iOf v5),(iOf v6)⟩ (ya_ (iOf v11) (iOf v7) (iOf v8) (ls iOf n12 f12) (iOf v13)) (iOf v15)).s.cells.length none,.int .i64 (xd_ (ls zg_ n1 f1) ⟨(iOf v2),(iOf v3),(iOf v4),(iOf v5),(iOf v6)⟩ (ya_ (iOf v11) (iOf v7) (iOf v8) (ls iOf n12 f12) (iOf v13)) (iOf v15)).s.draws,.sl (m+1) (m+1) [] 3 0 (xd_ (ls zg_ n1 f1) ⟨(iOf v2),(iOf v3),(iOf v4),(iOf v5),(iOf v6)⟩ (ya_ (iOf v11) (iOf v7) (iOf v8) (ls iOf n12 f12) (iOf v13)) (iOf v15)).s.sends.length none],.int .i64 0],r1++r12,[(m,cB (xd_ (ls zg_ n1 f1) ⟨(iOf v2),(iOf v3),(iOf v4),(iOf v5),(iOf v6)⟩ (ya_ (iOf v11) (iOf v7) (iOf v8) (ls iOf n12 f12) (iOf v13)) (iOf v15)).s),(m+1,sB (xd_ (ls zg_ n1 f1) ⟨(iOf v2),(iOf v3),(iOf v4),(iOf v5),(iOf v6)⟩ (ya_ (iOf v11) (iOf v7) (iOf v8) (ls iOf n12 f12) (iOf v13)) (iOf v15)).s)])else none
  | _,_=>none
 | _=>none
theorem sCrG_ok:zh_ Try.prog 14 sCrG:=by
 refine⟨zf_ (by kernel_rfl),fun args h m c v rd wr hs hm hc w0 M β h' w R hrd hwr hst=>?_⟩
 unfold sCrG at hs
 split at hs
 ·rename_i v1 v2 v3 v4 v5 v6 v7 v8 v9 v10 v11 v12 v13 v14 v15
  split at hs
  ·rename_i c1 n1 f1 r1 c12 n12 f12 r12 a1 a12
   obtain⟨hb,hs⟩:=zj_ hs
   simp only[Option.some.injEq,Prod.mk.injEq]at hs
   obtain⟨rfl,rfl,rfl,rfl⟩:=hs
   simp only[Bool.and_eq_true]at hb
   obtain⟨⟨⟨⟨⟨⟨⟨⟨⟨⟨⟨⟨b2,b3⟩,b4⟩,b5⟩,b6⟩,b7⟩,b8⟩,b9⟩,b10⟩,b11⟩,b13⟩,b14⟩,b15⟩:=hb
   obtain⟨k1,k12,g1,g12,y1,y2,y3,y4⟩:=hc
   obtain⟨A1,p1,d1,e1,t1⟩:=zk_ R a1 k1 (fun i hi=>hrd i (List.mem_append_left _ hi)) (by omega)
   obtain⟨A12,p12,d12,e12,t12⟩:=zk_ R a12 k12 (fun i hi=>hrd i (List.mem_append_right _ hi)) (by omega)
   refine y9_ (views:=[⟨5,(ls zg_ n1 f1).length,prS (ls zg_ n1 f1),A1,p1⟩,⟨1,(ls iOf n12 f12).length,i64S (ls iOf n12 f12),A12,p12⟩]) (crunG (ls zg_ n1 f1) ⟨(iOf v2),(iOf v3),(iOf v4),(iOf v5),(iOf v6)⟩ (iOf v7) (iOf v8) (iOf v9) (iOf v10) (iOf v11) (iOf v13) (iOf v14) (iOf v15) (ls iOf n12 f12) p1 p12 y1 (by rw[zb_];exact y2) (by rw[zb_];exact y3) y4) ?_ R hm hwr ?_ ?_ ?_
   ·exact d21_
   ·exact d31_
   ·exact k84_
   ·exact k84_
  ·cases hs
 ·cases hs
def cCrB:FuncId→Option yr_:=xb_ [(29,sRunB)]
theorem cCrB_ok:∀f S,cCrB f=some S→zh_ Try.prog f S:=zn_ ⟨sRunB_ok,trivial⟩
theorem crunB (P:List Ins)(v:Evi)(t s q o y d f0 f:Int)(cs:List Int)(p1 p2:Nat)(hP:∀x∈P,x.ok)(hn:P.length≤1000000)(hc:cs.length≤1000000)(hb:(xd_ P v (ya_ y t s cs d) f).bad≠0):yc_ Try.prog 14 [.agg [.sl 1 2 [] 5 0 P.length (some p1),.agg [.int .u64 v.seed,.int .i64 v.process,.int .i64 v.ports,.int .i64 v.look,.int .i64 v.now],.agg [.agg [.int .i64 t,.int .i64 s,.int .i64 q],.int .i64 o,.int .i64 y],.sl 3 4 [] 1 0 cs.length (some p2),.int .i64 d,.int .i64 f0],.int .i64 f]
  [.gone,.gone,.ro (.arr P.length 5 (prS P)),.gone,.ro (.arr cs.length 1 (i64S cs))]
  (.tup [.agg [.nat .i64 (xd_ P v (ya_ y t s cs d) f).tr.length,.int .i64 (xd_ P v (ya_ y t s cs d) f).at_,.sl 0 0 [] 0 0 0 (some 0),.nat .i64 0,.sl 0 0 [] 0 0 0 (some 0)],.int .i64 (xd_ P v (ya_ y t s cs d) f).bad]) [.gone]:=by
 refine zm_ (fn:=Try.f14) 5 20 0 rfl rfl rfl rfl rfl (by simp only[zd_,Stable,hp,i64S,prS,insS,zt_,sndS,stS,evS,macS,cB,sB,HB.stable];simp[HB.born]) rfl fun w0 M E hro=>?_
 repeat' (first|refine Ctl.h ?_ |((with_reducible intro hif);first |(focus (cases hif;done)) |((try simp only[JH]at hif);try exact hy_)) |((with_reducible first|apply J22 cCrB_ok za_|apply J23 fol cCrB_ok za_|apply J24);(·rfl);(· (simp only[push_cast,↓JP,Nat.reduceAdd,Nat.reduceEqDiff,Nat.reduceLT,Nat.reduceMul,Nat.reduceLeDiff,reduceCtorEq,reduceIte,↓JK,JE,JB,cCrB,sRunB,inR,inN,hb];rfl));(try kernel_rfl);try exact k87_)|fail)
 apply At.endsRet za_ (fn:=Try.f14) (rs:=[.cell 4 45,.tmp 5]) Anc.refl hro (lb_ rfl) rfl
 ·exact k5_
 ·exact k6_
 ·exact k7_
 ·rfl
 ·exact k84_
 ·exact k9_
 ·exact fun β=>rfl
 ·exact k84_
def sCrB:yr_:=fun args h m=>match args with
 | [.agg [v1,.agg [v2,v3,v4,v5,v6],.agg [.agg [v7,v8,v9],v10,v11],v12,v13,v14],v15]=>match srcV h 5 (.tup []) v1,srcV h 1 (.tup []) v12 with
  | some (c1,n1,f1,r1),some (c12,n12,f12,r12)=>bif isI .u64 v2 && isI .i64 v3 && isI .i64 v4 && isI .i64 v5 && isI .i64 v6 && isI .i64 v7 && isI .i64 v8 && isI .i64 v9 && isI .i64 v10 && isI .i64 v11 && isI .i64 v13 && isI .i64 v14 && isI .i64 v15 then some (c1∧c12∧(∀q,q < n1→isIns (f1 q)=true)∧(∀q,q < n12→isI .i64 (f12 q)=true)∧((∀x∈(ls zg_ n1 f1),x.ok))∧(n1≤1000000)∧(n12≤1000000)∧((xd_ (ls zg_ n1 f1) ⟨(iOf v2),(iOf v3),(iOf v4),(iOf v5),(iOf v6)⟩ (ya_ (iOf v11) (iOf v7) (iOf v8) (ls iOf n12 f12) (iOf v13)) (iOf v15)).bad≠0),.tup [.agg [.nat .i64 (xd_ (ls zg_ n1 f1) ⟨(iOf v2),(iOf v3),(iOf v4),(iOf v5),(iOf v6)⟩ (ya_ (iOf v11) (iOf v7) (iOf v8) (ls iOf n12 f12) (iOf v13)) (iOf v15)).tr.length,.int .i64 (xd_ (ls zg_ n1 f1) ⟨(iOf v2),(iOf v3),(iOf v4),(iOf v5),(iOf v6)⟩ (ya_ (iOf v11) (iOf v7) (iOf v8) (ls iOf n12 f12) (iOf v13)) (iOf v15)).at_,.sl 0 0 [] 0 0 0 (some 0),.nat .i64 0,.sl 0 0 [] 0 0 0 (some 0)],.int .i64 (xd_ (ls zg_ n1 f1) ⟨(iOf v2),(iOf v3),(iOf v4),(iOf v5),(iOf v6)⟩ (ya_ (iOf v11) (iOf v7) (iOf v8) (ls iOf n12 f12) (iOf v13)) (iOf v15)).bad],r1++r12,[])else none
  | _,_=>none
 | _=>none
theorem sCrB_ok:zh_ Try.prog 14 sCrB:=by
 refine⟨zf_ (by kernel_rfl),fun args h m c v rd wr hs hm hc w0 M β h' w R hrd hwr hst=>?_⟩
 unfold sCrB at hs
 split at hs
 ·rename_i v1 v2 v3 v4 v5 v6 v7 v8 v9 v10 v11 v12 v13 v14 v15
  split at hs
  ·rename_i c1 n1 f1 r1 c12 n12 f12 r12 a1 a12
   obtain⟨hb,hs⟩:=zj_ hs
   simp only[Option.some.injEq,Prod.mk.injEq]at hs
   obtain⟨rfl,rfl,rfl,rfl⟩:=hs
   simp only[Bool.and_eq_true]at hb
   obtain⟨⟨⟨⟨⟨⟨⟨⟨⟨⟨⟨⟨b2,b3⟩,b4⟩,b5⟩,b6⟩,b7⟩,b8⟩,b9⟩,b10⟩,b11⟩,b13⟩,b14⟩,b15⟩:=hb
   obtain⟨k1,k12,g1,g12,y1,y2,y3,y4⟩:=hc
   obtain⟨A1,p1,d1,e1,t1⟩:=zk_ R a1 k1 (fun i hi=>hrd i (List.mem_append_left _ hi)) (by omega)
   obtain⟨A12,p12,d12,e12,t12⟩:=zk_ R a12 k12 (fun i hi=>hrd i (List.mem_append_right _ hi)) (by omega)
   refine y9_ (views:=[⟨5,(ls zg_ n1 f1).length,prS (ls zg_ n1 f1),A1,p1⟩,⟨1,(ls iOf n12 f12).length,i64S (ls iOf n12 f12),A12,p12⟩]) (crunB (ls zg_ n1 f1) ⟨(iOf v2),(iOf v3),(iOf v4),(iOf v5),(iOf v6)⟩ (iOf v7) (iOf v8) (iOf v9) (iOf v10) (iOf v11) (iOf v13) (iOf v14) (iOf v15) (ls iOf n12 f12) p1 p12 y1 (by rw[zb_];exact y2) (by rw[zb_];exact y3) y4) ?_ R hm hwr ?_ ?_ ?_
   ·exact d21_
   ·exact d31_
   ·exact k84_
   ·exact k84_
  ·cases hs
 ·cases hs
end Go.Proofs.Ytjliakjbdcplcaa.Vm
end
end

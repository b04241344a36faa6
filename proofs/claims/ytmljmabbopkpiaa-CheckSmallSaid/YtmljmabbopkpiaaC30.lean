import Derived.Test.YtmljmabbopkpiaaC1
import Derived.Test.YtmljmabbopkpiaaC16
import Derived.Test.YtmljmabbopkpiaaC29
set_option linter.unusedSimpArgs false
set_option linter.unusedVariables false
set_option maxRecDepth 100000
set_option maxHeartbeats 4000000
section
open Go.Proofs.Ytmljmabbopkpiaa.Vm Go.RowKit
attribute [local push_cast] eqB eqBL allB prS sndsS zw_ nav_ins xs_ xr_ xq_ xp_ xo_ nav_snd xn_ xm_ xl_ yo_ yi_ yv_ yq_ yz_ yy_ iOf nav_k nav_k0 nav_k1 nav_ka nav_kai nav_ft nav_ft0 nav_ft1 isKn_kS knOf_kS isKa_kaS kaOf_kaS isFt_ftS ftOf_ftS setp_ka setp_ftk setp_ftr setp_fti evm_ins evm_snd evm_k evm_ka evm_ft
section
namespace Go.Proofs.Ytmljmabbopkpiaa.Vm
open Go.RowKit
theorem whys_lit (n p:Nat)(a b c:Int):zz_ Try.prog 83 [.agg [.int .i64 a,.int .i64 b,.int .i64 c],.sl 1 2 [] 5 0 n (some p)] [.gone,.gone,.gone] (.fn 117 [.ptr 4 [],.ptr 3 []]) [.gone,.gone,.gone,.own 31 (.agg [.int .i64 a,.int .i64 b,.int .i64 c]) true,.own 25 (.sl 1 2 [] 5 0 n (some p)) true]:=by
 refine zf_ (fn:=Try.f83) 3 6 0 rfl rfl rfl rfl rfl u3_ rfl fun w0 M E hro=>?_
 repeat' (first|refine Ctl.h ?_ |((with_reducible intro hif);first |(focus (cases hif;done)) |((try simp only[JH]at hif);try exact hy_)) |((with_reducible first|apply J22 y3_ za_|apply J23 fol y3_ za_|apply J24);(·rfl);(· exact k13_);(try kernel_rfl);try exact k9_)|fail)
 apply At.endsRet za_ (fn:=Try.f83) (rs:=[.tmp 4]) Anc.refl hro (lb_ rfl) rfl
 ·exact k3_
 ·exact k4_
 ·exact k5_
 ·rfl
 ·exact x5_
 ·exact k7_
 ·exact fun β=>rfl
 ·exact x5_
def sWhys:y4_:=fun args h m=>match args with
 | [.agg [.int .i64 a,.int .i64 b,.int .i64 c],.sl z i [] 5 0 n (some p)]=>bif (h z).born && (h i).born then some (True,.fn 117 [.ptr (m+1) [],.ptr m []],[z,i],[(m,.own 31 (.agg [.int .i64 a,.int .i64 b,.int .i64 c]) true),(m+1,.own 25 (.sl z i [] 5 0 n (some p)) true)])else none
 | _=>none
theorem sWhys_ok:zm_ Try.prog 83 sWhys:=by
 refine⟨zg_ (by kernel_rfl),fun args h m c v rd wr hs hm hc w0 M β h' w R hrd hwr hst=>?_⟩
 unfold sWhys at hs
 split at hs
 ·rename_i a b c z i n p
  obtain⟨hb,hs2⟩:=zn_ hs
  clear hs
  simp only[Bool.and_eq_true]at hb
  obtain⟨hz,hi⟩:=hb
  simp only[Option.some.injEq,Prod.mk.injEq]at hs2
  obtain⟨rfl,rfl,rfl,rfl⟩:=hs2
  have ei:h' i=h i:=hrd i (by simp)
  have ez:h' z=h z:=hrd z (by simp)
  have C:=callG (L1:=[.gone,.gone,.gone,.own 31 (.agg [.int .i64 a,.int .i64 b,.int .i64 c]) true,.own 25 (.sl 1 2 [] 5 0 n (some p)) true]) (h:=h) (m:=m) [0,z,i] (whys_lit n p a b c) R rfl (by simp) rfl rfl rfl
   ⟨.gone (by rw[R.nil0];rfl),.gone (by rw[ez];exact hz),.gone (by rw[ei];exact hi),trivial⟩ hm (by simpa [newB,rhoL,HB.ren,SV.ren,renL]using hwr) (by simp)
   (by simp[x2_,HB.stable]) (by simp[zh_,zb_,hp,HB.born]) (by simp[NewL,HB.stable,zb_,zh_,HB.isRo,hG,hp,HB.born]) (by simp[zb_,zh_,hG,hp,HB.born])
  have e0:renL (rhoL [0,z,i] m) [SV.agg [.int .i64 a,.int .i64 b,.int .i64 c],.sl 1 2 [] 5 0 n (some p)]=[.agg [.int .i64 a,.int .i64 b,.int .i64 c],.sl z i [] 5 0 n (some p)]:=by simp[renL,SV.ren,rhoL]
  rw[e0]at C
  refine C.mono fun e w' he=>?_
  simpa [newB,rhoL,HB.ren,SV.ren,renL]using he
 ·cases hs
def cWys:FuncId→Option y4_:=xz_ [(56,sFactsI),(57,sFits),(58,sWhyL),(83,sWhys)]
theorem zi_:∀f S,cWys f=some S→zm_ Try.prog f S:=z0_ ⟨sFactsI_ok,sFits_ok,sWhyL_ok,sWhys_ok,trivial⟩
def yw_ (xs:List Ins)(F:List Ft)(c p l:Int):Nat→List Int
 | 0=>[]
 | k+1=>yw_ xs F c p l k++(if y5_ c p l (xs.getD k ⟨0,0,0,0,0⟩) (zs_ F k)≠0 then [(k:Int)] else [])
theorem doom_len (xs:List Ins)(F:List Ft)(c p l:Int):∀k,(yw_ xs F c p l k).length≤k
 | 0=>by simp[yw_]
 | k+1=>by
  have:=doom_len xs F c p l k
  unfold yw_
  split<;>simp<;>omega
theorem Doomed_lit (xs:List Ins)(p1:Nat)(c p l:Int)(hx:∀x∈xs,x.ok)(hc:(zu_ xs).2=0)(hl:limB c p l=true):zz_ Try.prog 34 [.sl 1 2 [] 5 0 xs.length (some p1),.agg [.int .i64 c,.int .i64 p,.int .i64 l]] [.gone,.gone,.ro (.arr xs.length 5 (prS xs))]
  (.tup [nilOr (yw_ xs (zr_ xs) c p l xs.length) 3,.int .i64 0]) [.gone,.gone,.gone,.own 3 (.arr (yw_ xs (zr_ xs) c p l xs.length).length 1 (zw_ (yw_ xs (zr_ xs) c p l xs.length))) false]:=by
 refine zf_ (fn:=Try.f34) 3 25 0 rfl rfl rfl rfl rfl u3_ rfl fun w0 M E hro=>?_
 have hl6:xs.length≤256:=(yr_ hc).2.1
 have hfit:fitE xs c p l=0:=by unfold fitE;rw[if_pos hc,if_pos hl]
 obtain⟨F,hF⟩:∃F,F=zr_ xs:=⟨_,rfl⟩
 rw[←hF]
 repeat' (first|refine Ctl.h ?_ |((with_reducible intro hif);first |(focus (cases hif;done)) |((try simp only[JH]at hif);try exact hy_)) |((with_reducible first|apply J22 zi_ za_|apply J23 fol zi_ za_|apply J24);(·rfl);(· exact k117_);(try kernel_rfl);try exact k116_)|fail)
 with_reducible apply WF.range (fn':=Try.f117) 32
 ·exact k77_
 ·exact k39_
 ·rfl
 ·rfl
 ·rfl
 ·rfl
 ·rfl
 ·rfl
 ·rfl
 intro E1 rec tmps after hE1 hrec hcf haft
 repeat' (first|refine Ctl.h ?_ |((with_reducible intro hif);first |(focus (cases hif;done)) |((try simp only[JH]at hif);try exact hy_)) |((with_reducible first|apply J22 zi_ za_|apply J23 fol zi_ za_|apply J24);(·rfl);(· exact k118_);(try kernel_rfl);try exact k9_)|fail)
 refine WF.empty 3 1 (zw_ []) (fun _ q=>i64S_stable q) ?_
 refine WF.loopAt (fun k=>k≤xs.length) (fun k=>[(0,.yl 8),(1,.ptr 6 []),(2,.ptr 5 []),(8,.sl 9 9 [] 17 0 xs.length none),(9,.nat .i64 xs.length),(10,.nat .i64 k)]) (fun k=>[.gone,.gone,.ro (.arr xs.length 5 (prS xs)),.gone,.own 79 (nilOr (yw_ xs F c p l k) 10) true,.own 31 (.agg [.int .i64 c,.int .i64 p,.int .i64 l]) true,.own 25 (.sl 1 2 [] 5 0 xs.length (some p1)) true,.raw (.deferred (some [])),.raw (.loop (rec .ready none)),.own 44 (.arr xs.length 17 (y0_ F)) false,.own 3 (.arr (yw_ xs F c p l k).length 1 (zw_ (yw_ xs F c p l k))) false]) (fun k=>xs.length - k) 0 (Nat.zero_le _) ?_ ?_ rfl ?_ ?_ rfl ?_
 ·exact k8_
 ·exact k5_
 ·exact x5_
 ·exact x5_
 ·intro k hk
  obtain⟨Dk,hD⟩:∃Dk,yw_ xs F c p l k=Dk:=⟨_,rfl⟩
  rw[hD]
  have hDl:Dk.length≤256:=by have:=doom_len xs F c p l k;rw[hD]at this;omega
  by_cases hkl:k < xs.length
  ·exact d32_
  ·obtain rfl:k=xs.length:=by omega
   cases hDe:Dk.isEmpty
   ·rw[nilOr_f hDe]
    repeat' (first|refine Ctl.h ?_ |((with_reducible intro hif);first |(focus (cases hif;done)) |((try simp only[JH]at hif);try exact hy_)) |((with_reducible first|apply J22 zi_ za_|apply J23 fol zi_ za_|apply J24);(·rfl);(· exact k122_);(try kernel_rfl);try exact k85_)|fail)
    with_reducible apply At.itNormal .ready
    ·rfl
    ·rfl
    ·intro h;cases h
    apply haft
    intro w1 M1 D1 hA
    dsimp only
    rw[hD,nilOr_f hDe]
    repeat' (first|refine Ctl.h ?_ |((with_reducible intro hif);first |(focus (cases hif;done)) |((try simp only[JH]at hif);try exact hy_)) |((with_reducible first|apply J22 zi_ za_|apply J23 fol zi_ za_|apply J24);(·rfl);(· exact k122_);(try kernel_rfl);try exact k85_)|fail)
    apply At.endsPick [0,1,2,10] za_ (fn:=Try.f34) (rs:=[.tmp 4,.tmp 5]) hA hro (lb_ rfl) rfl
    ·exact k3_
    ·exact k39_
    ·rfl
    ·rfl
    ·rfl
    ·exact k53_
    ·rfl
    ·exact x5_
    ·exact k7_
    ·exact fun β=>rfl
    ·exact x5_
   ·rw[nilOr_t hDe]
    repeat' (first|refine Ctl.h ?_ |((with_reducible intro hif);first |(focus (cases hif;done)) |((try simp only[JH]at hif);try exact hy_)) |((with_reducible first|apply J22 zi_ za_|apply J23 fol zi_ za_|apply J24);(·rfl);(· exact k122_);(try kernel_rfl);try exact k85_)|fail)
    with_reducible apply At.itNormal .ready
    ·rfl
    ·rfl
    ·intro h;cases h
    apply haft
    intro w1 M1 D1 hA
    dsimp only
    rw[hD,nilOr_t hDe]
    repeat' (first|refine Ctl.h ?_ |((with_reducible intro hif);first |(focus (cases hif;done)) |((try simp only[JH]at hif);try exact hy_)) |((with_reducible first|apply J22 zi_ za_|apply J23 fol zi_ za_|apply J24);(·rfl);(· exact k122_);(try kernel_rfl);try exact k85_)|fail)
    apply At.endsPick [0,1,2,10] za_ (fn:=Try.f34) (rs:=[.tmp 4,.tmp 5]) hA hro (lb_ rfl) rfl
    ·exact k3_
    ·exact k39_
    ·rfl
    ·rfl
    ·rfl
    ·exact k53_
    ·rfl
    ·exact x5_
    ·exact k7_
    ·exact fun β=>rfl
    ·exact x5_
def lstN (f:Ft)(x:Ins):Int:=if (f.regs x.b.toNat).is_=false∨(f.regs x.b.toNat).n < 0∨1024≤(f.regs x.b.toNat).n then 0 else(f.regs x.b.toNat).n
def leastS (x:Ins)(f:Ft)(c:Int×Int):Int×Int:=
 if f.reached=false then c else if x.op=8 then(c.1,max c.2 (x.n+1))else if x.op=5∨x.op=6 then(max c.1 (lstN f x+1),c.2)else c
def zq_ (xs:List Ins)(F:List Ft):Nat→Int×Int
 | 0=>(0,0)
 | k+1=>leastS (xs.getD k ⟨0,0,0,0,0⟩) (zs_ F k) (zq_ xs F k)
theorem send_n {x:Ins}(h:oneE x=0)(h8:x.op=8):0≤x.n∧x.n < 16:=by
 unfold oneE at h
 have hf:formC x.op=5:=by rw[h8];rfl
 rw[hf,if_neg (by decide)]at h
 have hc:x0_ 5 x.a x.b x.c x.n:=by
  by_cases q:x0_ 5 x.a x.b x.c x.n
  ·exact q
  ·rw[y1_ q]at h;cases h
 exact⟨hc.2.2.2.1,hc.2.2.2.2⟩
theorem lstN_bd (f:Ft)(x:Ins):0≤lstN f x∧lstN f x < 1024:=by
 unfold lstN
 split
 ·omega
 ·rename_i h;omega
theorem leastK_bd {xs:List Ins}(hx:∀x∈xs,x.ok)(hc:(zu_ xs).2=0)(F:List Ft):∀k,k≤xs.length→0≤(zq_ xs F k).1∧(zq_ xs F k).1≤1024∧0≤(zq_ xs F k).2∧(zq_ xs F k).2≤16
 | 0,_=>by simp[zq_]
 | k+1,hk=>by
  obtain⟨h1,h2,h3,h4⟩:=leastK_bd hx hc F k (by omega)
  have hR:=right_at hx hc (k:=k) (by omega)
  have hn:=send_n hR.one
  have hb:=lstN_bd (zs_ F k) (xs.getD k ⟨0,0,0,0,0⟩)
  unfold zq_ leastS
  split
  ·exact⟨h1,h2,h3,h4⟩
  ·split
   ·rename_i h8
    have:=hn h8
    dsimp only
    omega
   ·split
    ·dsimp only
     omega
    ·exact⟨h1,h2,h3,h4⟩
def cLst:FuncId→Option y4_:=xz_ [(21,sFactsR)]
theorem xd_:∀f S,cLst f=some S→zm_ Try.prog f S:=z0_ ⟨sFactsR_ok,trivial⟩
theorem lim_less {t:Nat}{ex:Bool}:Less (.own t (.agg [.nat .i64 0,.nat .i64 0,.nat .i64 1]) ex) (.own t (.agg [.int .i64 0,.int .i64 0,.nat .i64 1]) ex):=
 .val (fun β=>rfl) (fun n k f e=>by cases e) (fun n k f e=>by cases e)
theorem Least_lit (xs:List Ins)(p1:Nat)(hx:∀x∈xs,x.ok)(hc:(zu_ xs).2=0):zz_ Try.prog 20 [.sl 1 2 [] 5 0 xs.length (some p1)] [.gone,.gone,.ro (.arr xs.length 5 (prS xs))] (.tup [.agg [.int .i64 (zq_ xs (zr_ xs) xs.length).1,.int .i64 (zq_ xs (zr_ xs) xs.length).2,.int .i64 1],.int .i64 0]) [.gone]:=by
 refine zf_ (fn:=Try.f20) 3 94 0 rfl rfl rfl rfl rfl u3_ rfl fun w0 M E hro=>?_
 have hl:xs.length≤256:=(yr_ hc).2.1
 obtain⟨F,hF⟩:∃F,F=zr_ xs:=⟨_,rfl⟩
 have hll:=lim_less (t:=31) (ex:=true)
 repeat' (first|refine Ctl.h ?_ |((with_reducible intro hif);first |(focus (cases hif;done)) |((try simp only[JH]at hif);try exact hy_)) |((with_reducible first|apply J22 xd_ za_|apply J23 fol xd_ za_|apply J24);(·rfl);(· (simp only[push_cast,↓JP,Nat.reduceAdd,Nat.reduceEqDiff,Nat.reduceLT,Nat.reduceMul,Nat.reduceLeDiff,reduceCtorEq,reduceIte,↓JK,↓JF,cLst,sFactsR,y9_,yt_,ys_,hc,←hF];rfl));(try kernel_rfl);try exact k9_)|fail)
 rw[←hF]
 refine WF.loopAt (fun k=>k≤xs.length) (fun k=>[(0,.sl 1 2 [] 5 0 xs.length (some p1)),(2,.ptr 3 []),(6,.ptr 5 []),(20,.sl 4 4 [] 17 0 xs.length none),(21,.nat .i64 xs.length),(22,.nat .i64 k)]) (fun k=>[.gone,.gone,.ro (.arr xs.length 5 (prS xs)),.own 31 (.agg [.nat .i64 0,.nat .i64 0,.nat .i64 0]) true,.own 44 (.arr xs.length 17 (y0_ F)) false,.own 31 (.agg [.int .i64 (zq_ xs F k).1,.int .i64 (zq_ xs F k).2,.nat .i64 1]) true]) (fun k=>xs.length - k) 0 (Nat.zero_le _) ?_ ?_ rfl ?_ ?_ rfl ?_
 ·exact k8_
 ·exact k5_
 ·exact k6_
 ·exact k6_
 intro k hk
 obtain⟨w1,w2,w3,w4⟩:=leastK_bd hx hc F k hk
 by_cases hkl:k < xs.length
 ·obtain⟨x,hX⟩:∃x,xs.getD k ⟨0,0,0,0,0⟩=x:=⟨_,rfl⟩
  have hR:=right_at hx hc hkl
  rw[hX]at hR
  obtain⟨o0,o1,a0,a1,b0,b1,c0,c1,n0',n1'⟩:=hR.ok
  have hb8:=hR.b
  have hbn:x.b.toNat < 8:=by omega
  obtain⟨c,pp,hcp⟩:∃c pp,zq_ xs F k=(c,pp):=⟨_,_,rfl⟩
  rw[hcp]at w1 w2 w3 w4
  rw[hcp]
  dsimp only at w1 w2 w3 w4 ⊢
  have hS:zq_ xs F (k+1)=leastS x (zs_ F k) (c,pp):=by show leastS (xs.getD k ⟨0,0,0,0,0⟩) (zs_ F k) (zq_ xs F k)=_;rw[hX,hcp]
  cases hre:(zs_ F k).reached
  ·have e:zq_ xs F (k+1)=(c,pp):=by rw[hS];unfold leastS;simp[hre]
   have e1:(zq_ xs F (k+1)).1=c:=by rw[e]
   have e2:(zq_ xs F (k+1)).2=pp:=by rw[e]
   repeat' (first|refine Ctl.h ?_ |((with_reducible intro hif);first |(focus (cases hif;done)) |((try simp only[JH]at hif);try exact hy_)) |((with_reducible first|apply J22 xd_ za_|apply J23 fol xd_ za_|apply J24);(·rfl);(· (simp only[push_cast,↓JP,Nat.reduceAdd,Nat.reduceEqDiff,Nat.reduceLT,Nat.reduceMul,Nat.reduceLeDiff,reduceCtorEq,reduceIte,↓JK,↓JF,cLst,y0_,hX,inN,inR,hkl,hre];rfl));(try kernel_rfl);try exact xx_)|fail)
   refine At.nextPick [0,1,2,3,4,5] (k+1) ?_ rfl rfl rfl ?_ rfl ?_ ?_ ?_ rfl
   ·exact⟨hkl,by omega⟩
   ·exact k115_
   ·exact k6_
   ·exact k48_
   ·exact k6_
  ·by_cases h8:x.op=8
   ·have hn:=send_n hR.one h8
    have e:zq_ xs F (k+1)=(c,max pp (x.n+1)):=by rw[hS];unfold leastS;simp[hre,h8]
    have e1:(zq_ xs F (k+1)).1=c:=by rw[e]
    have e2:(zq_ xs F (k+1)).2=max pp (x.n+1):=by rw[e]
    repeat' (first|refine Ctl.h ?_ |((with_reducible intro hif);first |(focus (cases hif;done)) |((try simp only[JH]at hif);try exact hy_)) |((with_reducible first|apply J22 xd_ za_|apply J23 fol xd_ za_|apply J24);(·rfl);(· (simp only[push_cast,↓JP,Nat.reduceAdd,Nat.reduceEqDiff,Nat.reduceLT,Nat.reduceMul,Nat.reduceLeDiff,reduceCtorEq,reduceIte,↓JK,↓JF,cLst,y0_,hX,inN,inR,hkl,hre,h8];rfl));(try kernel_rfl);try exact xx_)|fail)
    refine At.nextPick [0,1,2,3,4,5] (k+1) ?_ rfl rfl rfl ?_ rfl ?_ ?_ ?_ rfl
    ·exact⟨hkl,by omega⟩
    ·exact k115_
    ·exact k6_
    ·exact k48_
    ·exact k6_
   ·by_cases h5:x.op=5
    ·cases q1:((zs_ F k).regs x.b.toNat).is_
     ·have e:zq_ xs F (k+1)=(max c (0+1),pp):=by rw[hS];unfold leastS;simp[hre,h5,q1,lstN]
      have e1:(zq_ xs F (k+1)).1=max c (0+1):=by rw[e]
      have e2:(zq_ xs F (k+1)).2=pp:=by rw[e]
      repeat' (first|refine Ctl.h ?_ |((with_reducible intro hif);first |(focus (cases hif;done)) |((try simp only[JH]at hif);try exact hy_)) |((with_reducible first|apply J22 xd_ za_|apply J23 fol xd_ za_|apply J24);(·rfl);(· (simp only[push_cast,↓JP,Nat.reduceAdd,Nat.reduceEqDiff,Nat.reduceLT,Nat.reduceMul,Nat.reduceLeDiff,reduceCtorEq,reduceIte,↓JK,↓JF,cLst,y0_,hX,inN,inR,hkl,hre,h5,q1];rfl));(try kernel_rfl);try exact xx_)|fail)
      refine At.nextPick [0,1,2,3,4,5] (k+1) ?_ rfl rfl rfl ?_ rfl ?_ ?_ ?_ rfl
      ·exact⟨hkl,by omega⟩
      ·exact k115_
      ·exact k6_
      ·exact k48_
      ·exact k6_
     ·by_cases q2:((zs_ F k).regs x.b.toNat).n < 0
      ·have e:zq_ xs F (k+1)=(max c (0+1),pp):=by rw[hS];unfold leastS;simp[hre,h5,q1,q2,lstN]
       have e1:(zq_ xs F (k+1)).1=max c (0+1):=by rw[e]
       have e2:(zq_ xs F (k+1)).2=pp:=by rw[e]
       repeat' (first|refine Ctl.h ?_ |((with_reducible intro hif);first |(focus (cases hif;done)) |((try simp only[JH]at hif);try exact hy_)) |((with_reducible first|apply J22 xd_ za_|apply J23 fol xd_ za_|apply J24);(·rfl);(· (simp only[push_cast,↓JP,Nat.reduceAdd,Nat.reduceEqDiff,Nat.reduceLT,Nat.reduceMul,Nat.reduceLeDiff,reduceCtorEq,reduceIte,↓JK,↓JF,cLst,y0_,hX,inN,inR,hkl,hre,h5,q1,q2];rfl));(try kernel_rfl);try exact xx_)|fail)
       refine At.nextPick [0,1,2,3,4,5] (k+1) ?_ rfl rfl rfl ?_ rfl ?_ ?_ ?_ rfl
       ·exact⟨hkl,by omega⟩
       ·exact k115_
       ·exact k6_
       ·exact k48_
       ·exact k6_
      ·by_cases q3:1024≤((zs_ F k).regs x.b.toNat).n
       ·have e:zq_ xs F (k+1)=(max c (0+1),pp):=by rw[hS];unfold leastS;simp[hre,h5,q1,q2,q3,lstN]
        have e1:(zq_ xs F (k+1)).1=max c (0+1):=by rw[e]
        have e2:(zq_ xs F (k+1)).2=pp:=by rw[e]
        repeat' (first|refine Ctl.h ?_ |((with_reducible intro hif);first |(focus (cases hif;done)) |((try simp only[JH]at hif);try exact hy_)) |((with_reducible first|apply J22 xd_ za_|apply J23 fol xd_ za_|apply J24);(·rfl);(· exact k123_);(try kernel_rfl);try exact xx_)|fail)
        refine At.nextPick [0,1,2,3,4,5] (k+1) ?_ rfl rfl rfl ?_ rfl ?_ ?_ ?_ rfl
        ·exact⟨hkl,by omega⟩
        ·exact k115_
        ·exact k6_
        ·exact k48_
        ·exact k6_
       ·have e:zq_ xs F (k+1)=(max c (((zs_ F k).regs x.b.toNat).n+1),pp):=by rw[hS];unfold leastS;simp[hre,h5,q1,q2,q3,lstN]
        have e1:(zq_ xs F (k+1)).1=max c (((zs_ F k).regs x.b.toNat).n+1):=by rw[e]
        have e2:(zq_ xs F (k+1)).2=pp:=by rw[e]
        repeat' (first|refine Ctl.h ?_ |((with_reducible intro hif);first |(focus (cases hif;done)) |((try simp only[JH]at hif);try exact hy_)) |((with_reducible first|apply J22 xd_ za_|apply J23 fol xd_ za_|apply J24);(·rfl);(· exact k123_);(try kernel_rfl);try exact xx_)|fail)
        refine At.nextPick [0,1,2,3,4,5] (k+1) ?_ rfl rfl rfl ?_ rfl ?_ ?_ ?_ rfl
        ·exact⟨hkl,by omega⟩
        ·exact k115_
        ·exact k6_
        ·exact k48_
        ·exact k6_
    ·by_cases h6:x.op=6
     ·cases q1:((zs_ F k).regs x.b.toNat).is_
      ·have e:zq_ xs F (k+1)=(max c (0+1),pp):=by rw[hS];unfold leastS;simp[hre,h6,q1,lstN]
       have e1:(zq_ xs F (k+1)).1=max c (0+1):=by rw[e]
       have e2:(zq_ xs F (k+1)).2=pp:=by rw[e]
       repeat' (first|refine Ctl.h ?_ |((with_reducible intro hif);first |(focus (cases hif;done)) |((try simp only[JH]at hif);try exact hy_)) |((with_reducible first|apply J22 xd_ za_|apply J23 fol xd_ za_|apply J24);(·rfl);(· (simp only[push_cast,↓JP,Nat.reduceAdd,Nat.reduceEqDiff,Nat.reduceLT,Nat.reduceMul,Nat.reduceLeDiff,reduceCtorEq,reduceIte,↓JK,↓JF,cLst,y0_,hX,inN,inR,hkl,hre,h6,q1];rfl));(try kernel_rfl);try exact xx_)|fail)
       refine At.nextPick [0,1,2,3,4,5] (k+1) ?_ rfl rfl rfl ?_ rfl ?_ ?_ ?_ rfl
       ·exact⟨hkl,by omega⟩
       ·exact k115_
       ·exact k6_
       ·exact k48_
       ·exact k6_
      ·by_cases q2:((zs_ F k).regs x.b.toNat).n < 0
       ·have e:zq_ xs F (k+1)=(max c (0+1),pp):=by rw[hS];unfold leastS;simp[hre,h6,q1,q2,lstN]
        have e1:(zq_ xs F (k+1)).1=max c (0+1):=by rw[e]
        have e2:(zq_ xs F (k+1)).2=pp:=by rw[e]
        repeat' (first|refine Ctl.h ?_ |((with_reducible intro hif);first |(focus (cases hif;done)) |((try simp only[JH]at hif);try exact hy_)) |((with_reducible first|apply J22 xd_ za_|apply J23 fol xd_ za_|apply J24);(·rfl);(· (simp only[push_cast,↓JP,Nat.reduceAdd,Nat.reduceEqDiff,Nat.reduceLT,Nat.reduceMul,Nat.reduceLeDiff,reduceCtorEq,reduceIte,↓JK,↓JF,cLst,y0_,hX,inN,inR,hkl,hre,h6,q1,q2];rfl));(try kernel_rfl);try exact xx_)|fail)
        refine At.nextPick [0,1,2,3,4,5] (k+1) ?_ rfl rfl rfl ?_ rfl ?_ ?_ ?_ rfl
        ·exact⟨hkl,by omega⟩
        ·exact k115_
        ·exact k6_
        ·exact k48_
        ·exact k6_
       ·by_cases q3:1024≤((zs_ F k).regs x.b.toNat).n
        ·have e:zq_ xs F (k+1)=(max c (0+1),pp):=by rw[hS];unfold leastS;simp[hre,h6,q1,q2,q3,lstN]
         have e1:(zq_ xs F (k+1)).1=max c (0+1):=by rw[e]
         have e2:(zq_ xs F (k+1)).2=pp:=by rw[e]
         repeat' (first|refine Ctl.h ?_ |((with_reducible intro hif);first |(focus (cases hif;done)) |((try simp only[JH]at hif);try exact hy_)) |((with_reducible first|apply J22 xd_ za_|apply J23 fol xd_ za_|apply J24);(·rfl);(· exact k124_);(try kernel_rfl);try exact xx_)|fail)
         refine At.nextPick [0,1,2,3,4,5] (k+1) ?_ rfl rfl rfl ?_ rfl ?_ ?_ ?_ rfl
         ·exact⟨hkl,by omega⟩
         ·exact k115_
         ·exact k6_
         ·exact k48_
         ·exact k6_
        ·have e:zq_ xs F (k+1)=(max c (((zs_ F k).regs x.b.toNat).n+1),pp):=by rw[hS];unfold leastS;simp[hre,h6,q1,q2,q3,lstN]
         have e1:(zq_ xs F (k+1)).1=max c (((zs_ F k).regs x.b.toNat).n+1):=by rw[e]
         have e2:(zq_ xs F (k+1)).2=pp:=by rw[e]
         repeat' (first|refine Ctl.h ?_ |((with_reducible intro hif);first |(focus (cases hif;done)) |((try simp only[JH]at hif);try exact hy_)) |((with_reducible first|apply J22 xd_ za_|apply J23 fol xd_ za_|apply J24);(·rfl);(· exact k124_);(try kernel_rfl);try exact xx_)|fail)
         refine At.nextPick [0,1,2,3,4,5] (k+1) ?_ rfl rfl rfl ?_ rfl ?_ ?_ ?_ rfl
         ·exact⟨hkl,by omega⟩
         ·exact k115_
         ·exact k6_
         ·exact k48_
         ·exact k6_
     ·have e:zq_ xs F (k+1)=(c,pp):=by rw[hS];unfold leastS;simp[hre,h8,h5,h6]
      have e1:(zq_ xs F (k+1)).1=c:=by rw[e]
      have e2:(zq_ xs F (k+1)).2=pp:=by rw[e]
      repeat' (first|refine Ctl.h ?_ |((with_reducible intro hif);first |(focus (cases hif;done)) |((try simp only[JH]at hif);try exact hy_)) |((with_reducible first|apply J22 xd_ za_|apply J23 fol xd_ za_|apply J24);(·rfl);(· (simp only[push_cast,↓JP,Nat.reduceAdd,Nat.reduceEqDiff,Nat.reduceLT,Nat.reduceMul,Nat.reduceLeDiff,reduceCtorEq,reduceIte,↓JK,↓JF,cLst,y0_,hX,inN,inR,hkl,hre,h8,h5,h6];rfl));(try kernel_rfl);try exact xx_)|fail)
      refine At.nextPick [0,1,2,3,4,5] (k+1) ?_ rfl rfl rfl ?_ rfl ?_ ?_ ?_ rfl
      ·exact⟨hkl,by omega⟩
      ·exact k115_
      ·exact k6_
      ·exact k48_
      ·exact k6_
 ·obtain rfl:k=xs.length:=by omega
  repeat' (first|refine Ctl.h ?_ |((with_reducible intro hif);first |(focus (cases hif;done)) |((try simp only[JH]at hif);try exact hy_)) |((with_reducible first|apply J22 xd_ za_|apply J23 fol xd_ za_|apply J24);(·rfl);(· (simp only[push_cast,↓JP,Nat.reduceAdd,Nat.reduceEqDiff,Nat.reduceLT,Nat.reduceMul,Nat.reduceLeDiff,reduceCtorEq,reduceIte,↓JK,↓JF,cLst,y0_,inN,inR];rfl));(try kernel_rfl);try exact xx_)|fail)
  apply At.endsRet za_ (fn:=Try.f20) (rs:=[.cell 2 31,.tmp 3]) Anc.refl hro (lb_ rfl) rfl
  ·exact k3_
  ·exact k4_
  ·exact k5_
  ·rfl
  ·exact k6_
  ·exact k7_
  ·exact fun β=>rfl
  ·exact k6_
def sLeast:y4_:=fun args h m=>match args with
 | [v1]=>match srcV h 5 (.tup []) v1 with
  | some (c1,n1,f1,r1)=>some (c1∧(∀q,q < n1→xt_ (f1 q)=true)∧((∀x∈(ls zd_ n1 f1),x.ok))∧((zu_ (ls zd_ n1 f1)).2=0),.tup [.agg [.int .i64 (zq_ (ls zd_ n1 f1) (zr_ (ls zd_ n1 f1)) (ls zd_ n1 f1).length).1,.int .i64 (zq_ (ls zd_ n1 f1) (zr_ (ls zd_ n1 f1)) (ls zd_ n1 f1).length).2,.int .i64 1],.int .i64 0],r1,[])
  | _=>none
 | _=>none
theorem sLeast_ok:zm_ Try.prog 20 sLeast:=by
 refine⟨zg_ (by kernel_rfl),fun args h m c v rd wr hs hm hc w0 M β h' w R hrd hwr hst=>?_⟩
 unfold sLeast at hs
 split at hs
 ·rename_i v1
  split at hs
  ·rename_i c1 n1 f1 r1 a1
   simp only[Option.some.injEq,Prod.mk.injEq]at hs
   obtain⟨rfl,rfl,rfl,rfl⟩:=hs
   obtain⟨k1,g1,y1,y2⟩:=hc
   obtain⟨A1,p1,d1,e1,t1⟩:=zp_ R a1 k1 (fun i hi=>hrd i hi) (by omega)
   refine yb_ (views:=[⟨5,(ls zd_ n1 f1).length,prS (ls zd_ n1 f1),A1,p1⟩]) (Least_lit (ls zd_ n1 f1) p1 y1 y2) ?_ R hm hwr ?_ ?_ ?_
   ·exact d20_
   ·exact d21_
   ·exact k6_
   ·exact k6_
  ·cases hs
 ·cases hs
end Go.Proofs.Ytmljmabbopkpiaa.Vm
end
end

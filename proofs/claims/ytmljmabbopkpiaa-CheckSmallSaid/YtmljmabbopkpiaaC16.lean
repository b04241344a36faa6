import Derived.Test.YtmljmabbopkpiaaC1
import Derived.Test.YtmljmabbopkpiaaC8
import Derived.Test.YtmljmabbopkpiaaC11
import Derived.Test.YtmljmabbopkpiaaC15
set_option linter.unusedSimpArgs false
set_option linter.unusedVariables false
set_option maxRecDepth 100000
set_option maxHeartbeats 4000000
section
namespace Go.Proofs.Ytmljmabbopkpiaa.Vm
open Go.RowKit
attribute [local push_cast] eqB eqBL allB prS sndsS zw_ nav_ins xs_ xr_ xq_ xp_ xo_ nav_snd xn_ xm_ xl_ yo_ yi_ yv_ yq_ yz_ yy_ iOf
theorem evm_in1 (i:Ins)(a:Bool→SV→Option (Prop×SV))(b:SV→Option (Prop×SV))(c:Unit→Option (Prop×SV)):ev.match_1 (fun _=>Option (Prop×SV)) (some (insS i)) a b c=b (insS i):=rfl
def cRG:FuncId→Option y4_:=xz_ [(144,sROne)]
theorem cRG_ok:∀f S,cRG f=some S→zm_ Try.prog f S:=z0_ ⟨sROne_ok,trivial⟩
theorem rgoes_lit (i:Ins)(hi:i.ok):zz_ Try.prog 146 [insS i] [.gone] (.bool (goesB i)) [.gone]:=by
 by_cases he:oneE i=0<;>by_cases h1:i.op=1<;>by_cases h2:i.op=2<;>by_cases h9:i.op=9
 all_goals
  refine zf_ (fn:=Try.f146) 1 21 0 rfl rfl rfl rfl rfl u4_ rfl fun w0 M E hro=>?_
  repeat' (first|refine Ctl.h ?_ |((with_reducible intro hif);first |(focus (cases hif;done)) |((try simp only[JH]at hif);try exact hy_)) |((with_reducible first|apply J22 cRG_ok za_|apply J23 fol cRG_ok za_|apply J24);(·rfl);(· (simp only[push_cast,↓JP,Nat.reduceAdd,Nat.reduceEqDiff,Nat.reduceLT,Nat.reduceMul,Nat.reduceLeDiff,reduceCtorEq,reduceIte,↓JK,evm_in1,cRG,sROne,he,h1,h2,h9];rfl));(try kernel_rfl);(try (focus (first|exact True.intro |((try simp only[JS,implies_true,forall_const,yc_,yf_,kndOf]);(first|assumption |(repeat' (first|assumption|exact True.intro|omega|apply And.intro)));done)))))|fail)
 all_goals
  apply At.endsRet za_ (fn:=Try.f146) (rs:=[.tmp 2]) Anc.refl hro (lb_ rfl) rfl
  ·exact k33_
  ·exact k4_
  ·exact k5_
  ·rfl
  ·exact k27_
  ·exact k7_
  ·(intro β;simp[resS,SV.den,goesB,he,h1,h2,h9])
  ·exact k27_
def sRGoes:y4_:=fun args h m=>match args with
 | [v1]=>bif xt_ v1 then some (((zd_ v1).ok),.bool (goesB (zd_ v1)),[],[])else none
 | _=>none
theorem sRGoes_ok:zm_ Try.prog 146 sRGoes:=by
 refine⟨zg_ (by kernel_rfl),fun args h m c v rd wr hs hm hc w0 M β h' w R hrd hwr hst=>?_⟩
 unfold sRGoes at hs
 split at hs
 ·rename_i v1
  obtain⟨hb,hs⟩:=zn_ hs
  simp only[Option.some.injEq,Prod.mk.injEq]at hs
  obtain⟨rfl,rfl,rfl,rfl⟩:=hs
  have b1:=hb
  have y1:=hc
  refine yb_ (views:=[]) (rgoes_lit (zd_ v1) y1) ?_ R hm hwr ?_ ?_ ?_
  ·intro x hx;cases hx
  ·exact d18_
  ·exact k27_
  ·exact k27_
 ·cases hs
theorem targB_ofR {i:Ins}(he:oneE i=0):xj_ i=decide (9≤i.op∧i.op≤11):=by
 unfold xj_
 rw[he,Bool.eq_iff_iff]
 simp
 omega
theorem targB_no {i:Ins}(he:oneE i≠0):xj_ i=false:=by
 unfold xj_
 simp[he]
theorem rtarg_lit (i:Ins)(hi:i.ok):zz_ Try.prog 145 [insS i] [.gone] (.tup [.int .i64 (targV i),.bool (xj_ i)]) [.gone]:=by
 by_cases he:oneE i=0<;>by_cases h1:i.op < 9<;>by_cases h2:11 < i.op
 all_goals
  refine zf_ (fn:=Try.f145) 1 19 0 rfl rfl rfl rfl rfl u4_ rfl fun w0 M E hro=>?_
  repeat' (first|refine Ctl.h ?_ |((with_reducible intro hif);first |(focus (cases hif;done)) |((try simp only[JH]at hif);try exact hy_)) |((with_reducible first|apply J22 cRG_ok za_|apply J23 fol cRG_ok za_|apply J24);(·rfl);(· (simp only[push_cast,↓JP,Nat.reduceAdd,Nat.reduceEqDiff,Nat.reduceLT,Nat.reduceMul,Nat.reduceLeDiff,reduceCtorEq,reduceIte,↓JK,evm_in1,cRG,sROne,he,h1,h2,inR,inN];rfl));(try kernel_rfl);(try (focus (first|exact True.intro |((try simp only[JS,implies_true,forall_const,yc_,yf_,kndOf,inR,inN]);(first|assumption |(repeat' (first|assumption|exact True.intro|omega|apply And.intro)));done)))))|fail)
 all_goals
  apply At.endsRet za_ (fn:=Try.f145) (rs:=[.tmp 2,.tmp 3]) Anc.refl hro (lb_ rfl) rfl
  ·exact k33_
  ·exact k4_
  ·exact k5_
  ·rfl
  ·exact k27_
  ·exact k7_
  ·(intro β;first |(have e:xj_ i=false:=(by first|exact targB_no he |(rw[targB_ofR he];exact decide_eq_false (by omega)));simp only[resS,SV.den,denL,targV,e];rfl) |(have e:xj_ i=true:=(by rw[targB_ofR he];exact decide_eq_true (by omega));simp only[resS,SV.den,denL,targV,e];rfl))
  ·exact k27_
def sRTarg:y4_:=fun args h m=>match args with
 | [v1]=>bif xt_ v1 then some (((zd_ v1).ok),.tup [.int .i64 (targV (zd_ v1)),.bool (xj_ (zd_ v1))],[],[])else none
 | _=>none
theorem sRTarg_ok:zm_ Try.prog 145 sRTarg:=by
 refine⟨zg_ (by kernel_rfl),fun args h m c v rd wr hs hm hc w0 M β h' w R hrd hwr hst=>?_⟩
 unfold sRTarg at hs
 split at hs
 ·rename_i v1
  obtain⟨hb,hs⟩:=zn_ hs
  simp only[Option.some.injEq,Prod.mk.injEq]at hs
  obtain⟨rfl,rfl,rfl,rfl⟩:=hs
  have b1:=hb
  have y1:=hc
  refine yb_ (views:=[]) (rtarg_lit (zd_ v1) y1) ?_ R hm hwr ?_ ?_ ?_
  ·intro x hx;cases hx
  ·exact d18_
  ·exact k27_
  ·exact k27_
 ·cases hs
def cRCk:FuncId→Option y4_:=xz_ [(144,sROne),(145,sRTarg),(146,sRGoes)]
theorem cRCk_ok:∀f S,cRCk f=some S→zm_ Try.prog f S:=z0_ ⟨sROne_ok,sRTarg_ok,sRGoes_ok,trivial⟩
theorem rcheck_lit (P:List Ins)(p1:Nat)(hok:∀x∈P,x.ok):zz_ Try.prog 112 [.sl 1 2 [] 5 0 P.length (some p1)] [.gone,.gone,.ro (.arr P.length 5 (prS P))] (.tup [.int .i64 (zu_ P).1,.int .i64 (zu_ P).2]) [.gone]:=by
 have hgo:∀j,j < P.length→∃x,P.getD j ⟨0,0,0,0,0⟩=x∧P[j]? = some x∧x.ok:=fun j hj=>⟨P[j],by rw[List.getD_eq_getElem?_getD,List.getElem?_eq_getElem hj];rfl,List.getElem?_eq_getElem hj,hok _ (List.getElem_mem _)⟩
 by_cases h0:P.length=0
 ·obtain rfl:=List.eq_nil_of_length_eq_zero h0
  have e:zu_ []=(-1,6):=rfl
  rw[e]
  refine zf_ (fn:=Try.f112) 3 55 0 rfl rfl rfl rfl rfl u4_ rfl fun w0 M E hro=>?_
  repeat' (first|refine Ctl.h ?_ |((with_reducible intro hif);first |(focus (cases hif;done)) |((try simp only[JH]at hif);try exact hy_)) |((with_reducible first|apply J22 cRCk_ok za_|apply J23 fol cRCk_ok za_|apply J24);(·rfl);(· exact k40_);(try kernel_rfl);try exact k9_)|fail)
  apply At.endsRet za_ (fn:=Try.f112) (rs:=[.tmp 2,.tmp 3]) Anc.refl hro (lb_ rfl) rfl
  ·exact k33_
  ·exact k4_
  ·exact k5_
  ·rfl
  ·exact k27_
  ·exact k7_
  ·exact fun β=>rfl
  ·exact k27_
 by_cases h256:256 < P.length
 ·have e:zu_ P=(-1,5):=by unfold zu_;rw[if_neg h0,if_pos h256]
  rw[e]
  refine zf_ (fn:=Try.f112) 3 55 0 rfl rfl rfl rfl rfl u4_ rfl fun w0 M E hro=>?_
  repeat' (first|refine Ctl.h ?_ |((with_reducible intro hif);first |(focus (cases hif;done)) |((try simp only[JH]at hif);try exact hy_)) |((with_reducible first|apply J22 cRCk_ok za_|apply J23 fol cRCk_ok za_|apply J24);(·rfl);(· exact k41_);(try kernel_rfl);try exact k9_)|fail)
  apply At.endsRet za_ (fn:=Try.f112) (rs:=[.tmp 2,.tmp 3]) Anc.refl hro (lb_ rfl) rfl
  ·exact k33_
  ·exact k4_
  ·exact k5_
  ·rfl
  ·exact k27_
  ·exact k7_
  ·exact fun β=>rfl
  ·exact k27_
 have eC:zu_ P=checkK P:=by unfold zu_;rw[if_neg h0,if_neg h256]
 rw[eC]
 refine zf_ (fn:=Try.f112) 3 55 0 rfl rfl rfl rfl rfl u4_ rfl fun w0 M E hro=>?_
 repeat' (first|refine Ctl.h ?_ |((with_reducible intro hif);first |(focus (cases hif;done)) |((try simp only[JH]at hif);try exact hy_)) |((with_reducible first|apply J22 cRCk_ok za_|apply J23 fol cRCk_ok za_|apply J24);(·rfl);(· exact k41_);(try kernel_rfl);try exact k9_)|fail)
 refine WF.loopAt (fun (k:Nat)=>k≤P.length∧∀i,i < k→∀y,P[i]? = some y→badAt P.length y=0) (fun (k:Nat)=>[(0,.sl 1 2 [] 5 0 P.length (some p1)),(4,.nat .i64 k)]) (fun (k:Nat)=>[.gone,.gone,.ro (.arr P.length 5 (prS P))]) (fun (k:Nat)=>P.length - k) 0 ⟨Nat.zero_le _,fun i hi=>absurd hi (Nat.not_lt_zero i)⟩ ?_ ?_ rfl ?_ ?_ rfl ?_
 ·exact k8_
 ·exact k5_
 ·exact k27_
 ·exact k27_
 rintro k ⟨hk,hB⟩
 by_cases hkl:k < P.length
 ·obtain⟨x,hx,hx2,hxo⟩:=hgo k hkl
  by_cases he:oneE x=0
  ·by_cases ht:xj_ x=true
   ·by_cases hv:(P.length:Int)≤targV x
    ·have eb:badAt P.length x=142:=by unfold badAt;rw[if_neg (fun h=>h he),if_pos ⟨ht,hv⟩]
     have e:=checkK_bad hB hx2 eb (by decide)
     rw[e]
     repeat' (first|refine Ctl.h ?_ |((with_reducible intro hif);first |(focus (cases hif;done)) |((try simp only[JH]at hif);try exact hy_)) |((with_reducible first|apply J22 cRCk_ok za_|apply J23 fol cRCk_ok za_|apply J24);(·rfl);(· exact k43_);(try kernel_rfl);try exact k42_)|fail)
     apply At.endsRet za_ (fn:=Try.f112) (rs:=[.tmp 2,.tmp 3]) Anc.refl hro (lb_ rfl) rfl
     ·exact k33_
     ·exact k4_
     ·exact k5_
     ·rfl
     ·exact k27_
     ·exact k7_
     ·exact fun β=>rfl
     ·exact k27_
    ·have eb:badAt P.length x=0:=by unfold badAt;rw[if_neg (fun h=>h he),if_neg (fun h=>hv h.2)]
     repeat' (first|refine Ctl.h ?_ |((with_reducible intro hif);first |(focus (cases hif;done)) |((try simp only[JH]at hif);try exact hy_)) |((with_reducible first|apply J22 cRCk_ok za_|apply J23 fol cRCk_ok za_|apply J24);(·rfl);(· exact k43_);(try kernel_rfl);try exact k42_)|fail)
     refine At.next (k+1) ?_ ?_ ?_ rfl ?_ ?_ rfl
     ·exact k34_
     ·exact k8_
     ·exact k5_
     ·exact k27_
     ·exact k27_
   ·have eb:badAt P.length x=0:=by unfold badAt;rw[if_neg (fun h=>h he),if_neg (fun h=>ht h.1)]
    repeat' (first|refine Ctl.h ?_ |((with_reducible intro hif);first |(focus (cases hif;done)) |((try simp only[JH]at hif);try exact hy_)) |((with_reducible first|apply J22 cRCk_ok za_|apply J23 fol cRCk_ok za_|apply J24);(·rfl);(· (simp only[push_cast,↓JP,Nat.reduceAdd,Nat.reduceEqDiff,Nat.reduceLT,Nat.reduceMul,Nat.reduceLeDiff,reduceCtorEq,reduceIte,↓JK,evm_in1,cRCk,sROne,sRTarg,sRGoes,hkl,hx,he,ht,inR,inN];rfl));(try kernel_rfl);try exact k42_)|fail)
    refine At.next (k+1) ?_ ?_ ?_ rfl ?_ ?_ rfl
    ·exact k34_
    ·exact k8_
    ·exact k5_
    ·exact k27_
    ·exact k27_
  ·have eb:badAt P.length x=oneE x:=if_pos he
   have e:=checkK_bad hB hx2 eb he
   rw[e]
   repeat' (first|refine Ctl.h ?_ |((with_reducible intro hif);first |(focus (cases hif;done)) |((try simp only[JH]at hif);try exact hy_)) |((with_reducible first|apply J22 cRCk_ok za_|apply J23 fol cRCk_ok za_|apply J24);(·rfl);(· (simp only[push_cast,↓JP,Nat.reduceAdd,Nat.reduceEqDiff,Nat.reduceLT,Nat.reduceMul,Nat.reduceLeDiff,reduceCtorEq,reduceIte,↓JK,evm_in1,cRCk,sROne,sRTarg,sRGoes,hkl,hx,he,inR,inN];rfl));(try kernel_rfl);try exact k42_)|fail)
   apply At.endsRet za_ (fn:=Try.f112) (rs:=[.tmp 2,.tmp 3]) Anc.refl hro (lb_ rfl) rfl
   ·exact k33_
   ·exact k4_
   ·exact k5_
   ·rfl
   ·exact k27_
   ·exact k7_
   ·exact fun β=>rfl
   ·exact k27_
 ·obtain rfl:k=P.length:=by omega
  have e:=checkK_none (p:=P) (fun i hi y hy=>hB i hi y hy)
  obtain⟨x,hx,hx2,hxo⟩:=hgo (P.length - 1) (by omega)
  rw[e,hx]
  have hlm:((P.length:Int) - 1).toNat=P.length - 1:=by omega
  by_cases hg:goesB x=true
  ·rw[if_pos hg]
   repeat' (first|refine Ctl.h ?_ |((with_reducible intro hif);first |(focus (cases hif;done)) |((try simp only[JH]at hif);try exact hy_)) |((with_reducible first|apply J22 cRCk_ok za_|apply J23 fol cRCk_ok za_|apply J24);(·rfl);(· exact k44_);(try kernel_rfl);try exact k42_)|fail)
   apply At.endsRet za_ (fn:=Try.f112) (rs:=[.tmp 2,.tmp 3]) Anc.refl hro (lb_ rfl) rfl
   ·exact k33_
   ·exact k4_
   ·exact k5_
   ·rfl
   ·exact k27_
   ·exact k7_
   ·exact fun β=>rfl
   ·exact k27_
  ·rw[if_neg hg]
   repeat' (first|refine Ctl.h ?_ |((with_reducible intro hif);first |(focus (cases hif;done)) |((try simp only[JH]at hif);try exact hy_)) |((with_reducible first|apply J22 cRCk_ok za_|apply J23 fol cRCk_ok za_|apply J24);(·rfl);(· exact k44_);(try kernel_rfl);try exact k42_)|fail)
   apply At.endsRet za_ (fn:=Try.f112) (rs:=[.tmp 2,.tmp 3]) Anc.refl hro (lb_ rfl) rfl
   ·exact k33_
   ·exact k4_
   ·exact k5_
   ·rfl
   ·exact k27_
   ·exact k7_
   ·exact fun β=>rfl
   ·exact k27_
def sRCheck:y4_:=fun args h m=>match args with
 | [v1]=>match srcV h 5 (.tup []) v1 with
  | some (c1,n1,f1,r1)=>some (c1∧(∀q,q < n1→xt_ (f1 q)=true)∧((∀x∈(ls zd_ n1 f1),x.ok)),.tup [.int .i64 (zu_ (ls zd_ n1 f1)).1,.int .i64 (zu_ (ls zd_ n1 f1)).2],r1,[])
  | _=>none
 | _=>none
theorem sRCheck_ok:zm_ Try.prog 112 sRCheck:=by
 refine⟨zg_ (by kernel_rfl),fun args h m c v rd wr hs hm hc w0 M β h' w R hrd hwr hst=>?_⟩
 unfold sRCheck at hs
 split at hs
 ·rename_i v1
  split at hs
  ·rename_i c1 n1 f1 r1 a1
   simp only[Option.some.injEq,Prod.mk.injEq]at hs
   obtain⟨rfl,rfl,rfl,rfl⟩:=hs
   obtain⟨k1,g1,y1⟩:=hc
   obtain⟨A1,p1,d1,e1,t1⟩:=zp_ R a1 k1 (fun i hi=>hrd i hi) (by omega)
   refine yb_ (views:=[⟨5,(ls zd_ n1 f1).length,prS (ls zd_ n1 f1),A1,p1⟩]) (rcheck_lit (ls zd_ n1 f1) p1 y1) ?_ R hm hwr ?_ ?_ ?_
   ·exact d20_
   ·exact d21_
   ·exact k27_
   ·exact k27_
  ·cases hs
 ·cases hs
end Go.Proofs.Ytmljmabbopkpiaa.Vm
end
section
namespace Go.Proofs.Ytmljmabbopkpiaa.Vm
open Go.RowKit
def bI (b:Bool):Int:=if b then 1 else 0
def bl (x:BitVec 64):List Int:=(List.range 64).map fun i=>bI (x.getLsbD i)
theorem z8_ (x:BitVec 64):(bl x).length=64:=by simp[bl]
theorem ze_ {x:BitVec 64}{i:Nat}(h:i < 64):(bl x).getD i 0=bI (x.getLsbD i):=by simp[bl,h]
def vbN (l:List Int):Nat→BitVec 64
 | 0=>0
 | n+1=>vbN l n |||(if l.getD n 0=1 then BitVec.twoPow 64 n else 0#64)
theorem vbN_get (l:List Int):∀n j,j < 64→(vbN l n).getLsbD j=(decide (j < n) && decide (l.getD j 0=1))
 | 0,j,_=>by simp[vbN]
 | n+1,j,hj=>by
  rw[vbN,BitVec.getLsbD_or,vbN_get l n j hj]
  by_cases h:l.getD n 0=1
  ·rw[if_pos h,BitVec.getLsbD_twoPow]
   by_cases e:n=j
   ·subst e;simp[h,hj]
    simpa using h
   ·have:(j < n+1)↔(j < n):=by omega
    simp[e,this]
  ·rw[if_neg h]
   by_cases e:n=j
   ·subst e
    have h':decide (l.getD n 0=1)=false:=decide_eq_false h
    simp only[h',Bool.and_false,Bool.false_or]
    simp
   ·have:(j < n+1)↔(j < n):=by omega
    simp[this]
def vb (l:List Int):BitVec 64:=vbN l 64
theorem bI_one (b:Bool):decide (bI b=1)=b:=by cases b<;>rfl
theorem vb_bl (x:BitVec 64):vb (bl x)=x:=by
 apply BitVec.eq_of_getLsbD_eq
 intro i hi
 rw[vb,vbN_get _ _ _ hi,ze_ hi,bI_one]
 simp[hi]
theorem bl_ext {x:BitVec 64}{l:List Int}(hl:l.length=64)(h:∀i,i < 64→l.getD i 0=bI (x.getLsbD i)):l=bl x:=
 ext_getD 0 (by rw[hl,z8_]) fun q hq=>by rw[ze_ (by omega)];exact h q (by omega)
theorem bit_ofInt (a:Int){j:Nat}(hj:j < 64):(BitVec.ofInt 64 a).getLsbD j=decide (a / 2 ^ j % 2=1):=by
 rw[←BitVec.testBit_toNat,Nat.testBit_eq_decide_div_mod_eq,BitVec.toNat_ofInt]
 have hp:(0:Int) < 2 ^ j:=Int.pow_pos (by decide)
 have e64:(2:Int) ^ 64=2 ^ j*(2*2 ^ (63 - j)):=by
  rw[←Int.mul_assoc,Int.mul_comm (2 ^ j) 2,Int.mul_assoc,←Int.pow_add,←Int.pow_succ']
  congr 1
  omega
 have hr0:0≤a % (2:Int) ^ 64:=Int.emod_nonneg _ (by decide)
 have ha:=Int.mul_ediv_add_emod a (2 ^ 64)
 obtain⟨r,hr⟩:∃r,a % (2:Int) ^ 64=r:=⟨_,rfl⟩
 obtain⟨q,hq⟩:∃q,a / (2:Int) ^ 64=q:=⟨_,rfl⟩
 rw[hr,hq]at ha
 rw[hr]at hr0
 have e1:a / 2 ^ j=2*2 ^ (63 - j)*q+r / 2 ^ j:=by
  rw[←ha,e64,Int.mul_assoc,Int.add_comm,Int.add_mul_ediv_left _ _ (by omega),Int.add_comm]
 have e2:a / 2 ^ j % 2=r / 2 ^ j % 2:=by
  rw[e1,Int.mul_assoc,Int.add_comm,Int.add_mul_emod_self_left]
 have e3:((r.toNat / 2 ^ j % 2:Nat):Int)=r / 2 ^ j % 2:=by
  have:(r.toNat:Int)=r:=by omega
  push_cast
  rw[this]
 rw[e2,←e3]
 have:((2 ^ 64:Nat):Int)=(2:Int) ^ 64:=by decide
 rw[this,hr]
 simp only[decide_eq_decide]
 omega
def sumV (x y:BitVec 64)(c:Bool):BitVec 64:=x+y+BitVec.setWidth 64 (BitVec.ofBool c)
theorem sumV_bit {x y:BitVec 64}{c:Bool}{i:Nat}(h:i < 64):bI ((sumV x y c).getLsbD i)=(bI (x.getLsbD i)+bI (y.getLsbD i)+bI (BitVec.carry i x y c)).tmod 2:=by
 unfold sumV
 rw[BitVec.getLsbD_add_add_bool h]
 cases x.getLsbD i<;>cases y.getLsbD i<;>cases BitVec.carry i x y c<;>rfl
theorem carry_next (x y:BitVec 64)(c:Bool)(i:Nat):bI (BitVec.carry (i+1) x y c)=(bI (x.getLsbD i)+bI (y.getLsbD i)+bI (BitVec.carry i x y c)).tdiv 2:=by
 rw[BitVec.carry_succ]
 cases x.getLsbD i<;>cases y.getLsbD i<;>cases BitVec.carry i x y c<;>rfl
theorem carry_zero1 (x y:BitVec 64)(c:Bool):BitVec.carry 0 x y c=c:=BitVec.carry_zero
theorem z2_ (b:Bool):0≤bI b∧bI b≤1:=by cases b<;>decide
theorem arrCl {β : Env}{n k:Nat}{f g:Nat→SV}(h:∀q,q < n→(f q).cl β =(g q).cl β):(SV.arr n k f).cl β =(SV.arr n k g).cl β:=by
 have e:(List.range n).flatMap (fun i=>fit k (((f i).den β).cells.toList.map sane))=(List.range n).flatMap (fun i=>fit k (((g i).den β).cells.toList.map sane)):=by
  rw[List.flatMap_def,List.flatMap_def]
  exact congrArg List.flatten (List.map_congr_left fun q hq=>congrArg (fit k) (h q (List.mem_range.1 hq)))
 simp only[SV.cl,SV.den,e]
theorem At.empty {w0:World}{M:Nat→Prop}{E:Env}{n0 N:Nat}{D:List Deferred}{φ : Fr}{L:List HB}{K:Act→World→Prop}(ty k:Nat)(f:Nat→SV)(hf:∀(h:HM) (q:Nat),zb_ h (f q))
  (h:At w0 M E n0 N D φ (L++[.own ty (.arr 0 k f) false]) K):At w0 M E n0 N D φ L K:=fun a w hS=>by
 obtain⟨⟨β,hE,R,F⟩,hbn,hsz,hd⟩:=hS
 have hm:hp L L.length=.dead:=xy_ (Nat.le_refl _)
 have R1:=nothing R (e:=ty) (k:=k) (g:=f) hm (fun q=>hf _ q)
 have hag:∀i,(hp L i).born=true→β i=setE β L.length (none,0) i:=yd_ hm
 have hborn:∀i,(hp L i).born=true→(upd (hp L) L.length (.own ty (.arr 0 k f) false) i).born=true:=fun i hi=>by
  unfold Vm.upd;split
  ·rfl
  ·exact hi
 refine h a w ⟨⟨setE β L.length (none,0),fun i hi=>(hag i (hbn i hi)).symm.trans (hE i hi),by rw[hp_append1];exact R1,fun u v hu=>?_⟩,fun i hi=>by rw[hp_append1];exact hborn i (hbn i hi),hsz,hd⟩
 rw[hp_append1]
 obtain⟨k1,k2⟩:=F u v hu
 exact⟨k1.more hborn,by rw[k2];exact k1.den hag⟩
theorem WF.empty {P:Program}{w0:World}{M:Nat→Prop}{E:Env}{n0 N n:Nat}{D:List Deferred}{φ : Fr}{L:List HB}{c:Code}{ro:Option Nat}{Q:Exit→Act→World→Prop}(ty k:Nat)(f:Nat→SV)(hf:∀(h:HM) (q:Nat),zb_ h (f q))
  (h:WF ro n P c w0 M E n0 N D φ (L++[.own ty (.arr 0 k f) false]) Q):WF ro n P c w0 M E n0 N D φ L Q:=At.empty ty k f hf h
def nilOr (D:List Int)(b:Nat):SV:=SV.ite D.isEmpty (.sl 0 0 [] 0 0 0 (some 0)) (.sl b b [] 1 0 D.length none)
theorem nilOr_t {D:List Int}{b:Nat}(h:D.isEmpty=true):nilOr D b=.sl 0 0 [] 0 0 0 (some 0):=by unfold nilOr;rw[h];rfl
theorem nilOr_f {D:List Int}{b:Nat}(h:D.isEmpty=false):nilOr D b=.sl b b [] 1 0 D.length none:=by unfold nilOr;rw[h];rfl
theorem nilOr_st {D:List Int}{b:Nat}{hh:HM}(h0:(hh 0).born=true)(hb:(hh b).born=true):zb_ hh (nilOr D b):=by
 cases h:D.isEmpty
 ·rw[nilOr_f h];simp[zb_,hb]
 ·rw[nilOr_t h];simp[zb_,h0]
theorem less_nil {t b b':Nat}{ex:Bool}{σ : Nat→Nat}{D:List Int}(h:D.isEmpty=false)(hb:σ b=b'){n:Nat}(hn:D.length=n):Less (.own t (.sl b' b' [] 1 0 n none) ex) ((HB.own t (nilOr D b) ex).ren σ):=by
 rw[nilOr_f h,←hn]
 simp only[HB.ren,SV.ren,hb]
 exact .same _
theorem less_app {t:Nat}{σ : Nat→Nat}(D:List Int)(k:Int){g:Nat→SV}(hg:∀q,q < D.length+1→∀β,(g q).cl β = [.int .i64 ((D++[k]).getD q 0)]):Less (.own t (.arr (D.length+1) 1 g) false) ((HB.own t (.arr (D++[k]).length 1 (zw_ (D++[k]))) false).ren σ):=by
 have e:(D++[k]).length=D.length+1:=by simp
 rw[e]
 refine .val (fun β=>arrCl fun q hq=>?_) (fun n1 k1 f1 e=>by injection e with e1 e2 e3;subst e1 e2;exact⟨_,rfl⟩) (fun n1 k1 f1 e=>by injection e with e1 e2 e3;subst e1 e2;exact⟨_,rfl⟩)
 rw[hg q hq β];rfl
def NilF (L:List HB)(φ : Fr):Fr→Prop
 | []=>True
 | p::l=>(∃u,look φ p.1=some u∧(∀β : Env,β 0=(none,0)→β L.length=(none,0)→u.den β = p.2.den β))∧NilF L φ l
theorem nilF_spec {L:List HB}{φ : Fr}:∀{φ2:Fr},NilF L φ φ2→∀p∈φ2,∃u,look φ p.1=some u∧(∀β : Env,β 0=(none,0)→β L.length=(none,0)→u.den β = p.2.den β)
 | [],_,p,hp=>by cases hp
 | q::l,h,p,hp=>by
  rcases List.mem_cons.1 hp with rfl|hp
  ·exact h.1
  ·exact nilF_spec h.2 p hp
theorem At.nilFr {w0:World}{M:Nat→Prop}{E:Env}{n0 N:Nat}{D:List Deferred}{φ φ2:Fr}{L L2:List HB}{K:Act→World→Prop}(ty k:Nat)(f:Nat→SV)(hf:∀(h:HM) (q:Nat),zb_ h (f q))
  (hL2:L2=L++[.own ty (.arr 0 k f) false]) (hφ : NilF L φ φ2) (hst:xe_ (hp L2) φ2) (h:At w0 M E n0 N D φ2 L2 K):At w0 M E n0 N D φ L K:=fun a w hS=>by
 subst hL2
 obtain⟨⟨β,hE,R,F⟩,hbn,hsz,hd⟩:=hS
 have hm:hp L L.length=.dead:=xy_ (Nat.le_refl _)
 have R1:=nothing R (e:=ty) (k:=k) (g:=f) hm (fun q=>hf _ q)
 have hag:∀i,(hp L i).born=true→β i=setE β L.length (none,0) i:=yd_ hm
 have hborn:∀i,(hp L i).born=true→(upd (hp L) L.length (.own ty (.arr 0 k f) false) i).born=true:=fun i hi=>by
  unfold Vm.upd;split
  ·rfl
  ·exact hi
 refine h a w ⟨⟨setE β L.length (none,0),fun i hi=>(hag i (hbn i hi)).symm.trans (hE i hi),by rw[hp_append1];exact R1,fun u v hu=>?_⟩,fun i hi=>by rw[hp_append1];exact hborn i (hbn i hi),hsz,hd⟩
 have hmem:=look_mem hu
 obtain⟨x,hx,hden⟩:=nilF_spec hφ _ hmem
 obtain⟨k1,k2⟩:=F u x hx
 refine⟨stableF_spec hst _ hmem,?_⟩
 rw[k2,k1.den hag]
 exact hden _ R1.nil (z4_ _ _ _)
theorem WF.nilFr {P:Program}{w0:World}{M:Nat→Prop}{E:Env}{n0 N n:Nat}{D:List Deferred}{φ φ2:Fr}{L L2:List HB}{c:Code}{ro:Option Nat}{Q:Exit→Act→World→Prop}(ty k:Nat)(f:Nat→SV)(hf:∀(h:HM) (q:Nat),zb_ h (f q))
  (hL2:L2=L++[.own ty (.arr 0 k f) false]) (hφ : NilF L φ φ2) (hst:xe_ (hp L2) φ2) (h:WF ro n P c w0 M E n0 N D φ2 L2 Q):WF ro n P c w0 M E n0 N D φ L Q:=At.nilFr ty k f hf hL2 hφ hst h
end Go.Proofs.Ytmljmabbopkpiaa.Vm
end
section
namespace Go.Proofs.Ytmljmabbopkpiaa.Vm
open Go.RowKit
def PickF (σ : Nat→Nat)(φ : Fr):Fr→Prop
 | []=>True
 | p::l=>(∃u,look φ p.1=some u∧∀β,u.den β =(p.2.ren σ).den β)∧PickF σ φ l
theorem pickF_spec {σ : Nat→Nat}{φ : Fr}:∀{φ2:Fr},PickF σ φ φ2→∀p∈φ2,∃u,look φ p.1=some u∧∀β,u.den β =(p.2.ren σ).den β
 | [],_,p,hp=>by cases hp
 | q::l,h,p,hp=>by
  rcases List.mem_cons.1 hp with rfl|hp
  ·exact h.1
  ·exact pickF_spec h.2 p hp
section
variable {w0:World} {M:Nat→Prop} {E:Env} {n0 N:Nat} {D:List Deferred} {φ φ2:Fr} {L L2:List HB}
theorem St.pick {a:Act}{w:World}(l:List Nat)(h:St w0 M E n0 N D φ L a w)(h00:l.getD 0 0=0)(hz:hp L2 0=.gone)(hid:idTo n0 l=true)(hpk:PickL (sg l) (hp L) L2 l)(hinj:injL L2 l []=true)(hs:x2_ (hp L2) L2)(hφ : PickF (sg l) φ φ2)(hf:xe_ (hp L2) φ2)(hb:bornTo n0 L2=true):St w0 M E n0 N D φ2 L2 a w:=by
 obtain⟨⟨β,hE,R,F⟩,_,h3,h4⟩:=h
 refine⟨⟨fun i=>β (sg l i),fun i hi=>?_,R.pick h00 hz hpk hinj hs,fun t v hv=>?_⟩,fun i hi=>?_,h3,h4⟩
 ·exact d17_
 ·have hm:=look_mem hv
  obtain⟨u,h1,h2⟩:=pickF_spec hφ _ hm
  have hst:=stableF_spec hf _ hm
  refine⟨hst,?_⟩
  rw[(F t u h1).2,h2]
  exact den_ren (h:=hp L2) (fun _ _=>rfl) hst
 ·simp only[bornTo,List.all_eq_true]at hb
  exact hb i (List.mem_range.2 hi)
theorem At.nextPick {α : Type}{p:α→Prop}{φi:α→Fr}{Li:α→List HB}(l:List Nat)(y:α)(hy:p y)(h00:l.getD 0 0=0)(hz:hp (Li y) 0=.gone)(hid:idTo n0 l=true)(hpk:PickL (sg l) (hp L) (Li y) l)(hinj:injL (Li y) l []=true)(hs:x2_ (hp (Li y)) (Li y))(hφ : PickF (sg l) φ (φi y))(hf:xe_ (hp (Li y)) (φi y))(hb:bornTo n0 (Li y)=true):At w0 M E n0 N D φ L (fun a w=>∃y,p y∧St w0 M E n0 N D (φi y) (Li y) a w):=
 fun a w hS=>⟨y,hy,hS.pick l h00 hz hid hpk hinj hs hφ hf hb⟩
theorem At.pick {K:Act→World→Prop}(l:List Nat)(h00:l.getD 0 0=0)(hz:hp L2 0=.gone)(hid:idTo n0 l=true)(hpk:PickL (sg l) (hp L) L2 l)(hinj:injL L2 l []=true)(hs:x2_ (hp L2) L2)(hφ : PickF (sg l) φ φ2)(hf:xe_ (hp L2) φ2)(hb:bornTo n0 L2=true)(h:At w0 M E n0 N D φ2 L2 K):At w0 M E n0 N D φ L K:=
 fun a w hS=>h a w (hS.pick l h00 hz hid hpk hinj hs hφ hf hb)
end
end Go.Proofs.Ytmljmabbopkpiaa.Vm
end
section
namespace Go.Proofs.Ytmljmabbopkpiaa.Vm
open Go.RowKit
attribute [local push_cast] eqB eqBL allB
def bO (l:List Int):HB:=.own 3 (.arr l.length 1 (zw_ l)) false
theorem nilB_cl {β : Env}{x:Nat}(h0:β 0=(none,0))(hx:β x=(none,0))(k:Nat):(SV.sl x x [] k 0 0 none).den β =(SV.sl 0 0 [] 0 0 0 (some 0)).den β:=by
 simp[SV.den,h0,hx]
theorem less_apB {t n:Nat}{σ : Nat→Nat}(S:List Int)(x:Int){U:List Int}(hn:S.length=n)(hU:S++[x]=U){g:Nat→SV}{xv z:SV}(hg:g=fun q=>SV.ite (decide (q < n)) (zw_ S q) ([xv].getD (q - n) z))(hx:∀β,xv.cl β = [.int .i64 x]) :
  Less (.own t (.arr (n+1) 1 g) false) ((HB.own t (.arr (n+1) 1 (zw_ U)) false).ren σ):=by
 subst hU
 have e:(HB.own t (.arr (n+1) 1 (zw_ (S++[x]))) false).ren σ = .own t (.arr (n+1) 1 (zw_ (S++[x]))) false:=rfl
 rw[e]
 refine .val (fun β=>arrCl fun q hq=>?_) (fun n1 k1 f1 e=>by injection e with e1 e2 e3;subst e1 e2;exact⟨_,rfl⟩) (fun n1 k1 f1 e=>by injection e with e1 e2 e3;subst e1 e2;exact⟨_,rfl⟩)
 subst hg hn
 dsimp only
 rw[x1_]
 by_cases h:q < S.length
 ·simp only[h,decide_true,cond_true]
  unfold zw_
  rw[List.getD_eq_getElem?_getD,List.getD_eq_getElem?_getD,List.getElem?_append_left h]
 ·have hq':q=S.length:=by omega
  subst hq'
  simp only[h,decide_false,cond_false,Nat.sub_self,List.getD_cons_zero,hx]
  unfold zw_
  rw[List.getD_eq_getElem?_getD,List.getElem?_append_right (Nat.le_refl _),Nat.sub_self];rfl
theorem take_snB {l:List Int}{k:Nat}(hk:k < l.length):l.take k++[l.getD k 0]=l.take (k+1):=by
 rw[List.getD_eq_getElem?_getD,List.getElem?_eq_getElem hk,List.take_add_one,List.getElem?_eq_getElem hk];rfl
theorem i64S_st (l:List Int)(h:HM)(q:Nat):zb_ h (zw_ l q):=trivial
theorem tm2 (A:Int):A.tmod 2=0↔A % 2=0:=by
 rw[←Int.dvd_iff_tmod_eq_zero,Int.dvd_iff_emod_eq_zero]
theorem td2 {A:Int}(h:A % 2=0):A.tdiv 2=A / 2:=Int.tdiv_eq_ediv_of_dvd (Int.dvd_of_emod_eq_zero h)
theorem tdB {A:Int}(h0:-9223372036854775808≤A)(h1:A≤9223372036854775807):-9223372036854775808≤A.tdiv 2∧A.tdiv 2≤9223372036854775807:=by
 rcases Int.le_total 0 A with h|h
 ·rw[Int.tdiv_eq_ediv_of_nonneg h];omega
 ·have e:A = -(-A):=by omega
  rw[e,Int.neg_tdiv,Int.tdiv_eq_ediv_of_nonneg (by omega)];omega
theorem nat_zero_i:((0:Nat):Int)=0:=rfl
theorem nat_one_i:((1:Nat):Int)=1:=rfl
theorem half_next (a:Int)(j:Nat):a / 2 ^ j / 2=a / 2 ^ (j+1):=by
 rw[Int.pow_succ,Int.ediv_ediv_of_nonneg (Int.pow_nonneg (by decide))]
structure ZB where
 j:Nat
 A:Int
theorem bits_lit (a:Int)(h0:-9223372036854775808≤a)(h1:a≤9223372036854775807):zz_ Try.prog 153 [.int .i64 a] [.gone] (.sl 1 1 [] 1 0 (bl (BitVec.ofInt 64 a)).length none) [.gone,bO (bl (BitVec.ofInt 64 a))]:=by
 obtain⟨X,hX⟩:∃X,BitVec.ofInt 64 a=X:=⟨_,rfl⟩
 rw[hX]
 have hlX:=z8_ X
 refine zf_ (fn:=Try.f153) 1 22 0 rfl rfl rfl rfl rfl u5_ rfl fun w0 M E hro=>?_
 repeat' (first|refine Ctl.h ?_ |((with_reducible intro hif);first |(focus (cases hif;done)) |((try simp only[JH]at hif);try exact hy_)) |((with_reducible first|apply J22 zl_ za_|apply J23 fol zl_ za_|apply J24);(·rfl);(· exact k29_);(try kernel_rfl);try exact k9_)|fail)
 refine WF.nilFr (φ2:=[(0,.int .i64 a),(3,.sl 1 1 [] 1 0 0 none),(4,.nat .i64 0)]) 3 1 (zw_ []) (fun h q=>i64S_st [] h q) rfl ?_ ?_ ?_
 ·refine⟨⟨_,rfl,fun β _ _=>rfl⟩,⟨_,rfl,fun β h0 hx=>(nilB_cl h0 (show β 1=(none,0) from hx) 1).symm⟩,⟨_,rfl,fun β _ _=>rfl⟩,trivial⟩
 ·simp[xe_,zb_,hp,HB.born]
 simp only[List.cons_append,List.nil_append]
 have hz:Less (.own 3 (.arr 0 1 (zw_ [])) false) (.own 3 (.arr 0 1 (zw_ ((bl X).take 0))) false):=.same _
 refine WF.loopAt (fun (z:ZB)=>z.j≤64∧z.A=a / 2 ^ z.j∧-9223372036854775808≤z.A∧z.A≤9223372036854775807) (fun (z:ZB)=>[(0,.int .i64 z.A),(3,.sl 1 1 [] 1 0 z.j none),(4,.nat .i64 z.j)]) (fun (z:ZB)=>[.gone,.own 3 (.arr z.j 1 (zw_ ((bl X).take z.j))) false]) (fun (z:ZB)=>64 - z.j) ⟨0,a⟩ ⟨Nat.zero_le _,by simp,h0,h1⟩ ?_ ?_ rfl ?_ ?_ rfl ?_
 ·exact k8_
 ·exact k5_
 ·exact yh_
 ·exact yh_
 rintro⟨j,A⟩ ⟨hj,hA,b0,b1⟩
 dsimp only at hj hA b0 b1 ⊢
 by_cases hjl:j < 64
 ·have hA':A / 2=a / 2 ^ (j+1):=by rw[hA];exact half_next a j
  have hbit:=bit_ofInt a hjl
  rw[hX,←hA]at hbit
  have hTl:((bl X).take j).length=j:=by rw[List.length_take];omega
  have hU:=take_snB (l:=bl X) (k:=j) (by omega)
  rw[ze_ hjl,hbit]at hU
  by_cases hp:A % 2=0
  ·have ht:A.tmod 2=0:=(tm2 A).2 hp
   have e1:bI (decide (A % 2=1))=0:=by rw[decide_eq_false (by omega)];rfl
   rw[e1]at hU
   have hden:∀β,(SV.int .i64 ((A - 0).tdiv 2)).den β =(SV.int .i64 (A / 2)).den β:=fun β=>by rw[Int.sub_zero,td2 hp]
   repeat' (first|refine Ctl.h ?_ |((with_reducible intro hif);first |(focus (cases hif;done)) |((try simp only[JH]at hif);try exact hy_)) |((with_reducible first|apply J22 zl_ za_|apply J23 fol zl_ za_|apply J24);(·rfl);(· (simp only[push_cast,↓JP,Nat.reduceAdd,Nat.reduceEqDiff,Nat.reduceLT,Nat.reduceMul,Nat.reduceLeDiff,reduceCtorEq,reduceIte,hjl,ht,inR,inN,nat_zero_i,List.all_cons,List.all_nil];rfl));(try kernel_rfl);try exact k45_)|fail)
   refine At.nextPick [0,3] (ZB.mk (j+1) (A / 2)) ?_ rfl rfl rfl ?_ rfl ?_ ?_ ?_ rfl
   ·exact k36_
   ·exact k37_
   ·exact yh_
   ·exact k38_
   ·exact yh_
  ·have ht:¬A.tmod 2=0:=fun h=>hp ((tm2 A).1 h)
   have e1:bI (decide (A % 2=1))=1:=by rw[decide_eq_true (by omega)];rfl
   rw[e1]at hU
   have hden:∀β,(SV.int .i64 ((A - 1).tdiv 2)).den β =(SV.int .i64 (A / 2)).den β:=fun β=>by rw[td2 (by omega),show (A - 1) / 2=A / 2 by omega]
   repeat' (first|refine Ctl.h ?_ |((with_reducible intro hif);first |(focus (cases hif;done)) |((try simp only[JH]at hif);try exact hy_)) |((with_reducible first|apply J22 zl_ za_|apply J23 fol zl_ za_|apply J24);(·rfl);(· (simp only[push_cast,↓JP,Nat.reduceAdd,Nat.reduceEqDiff,Nat.reduceLT,Nat.reduceMul,Nat.reduceLeDiff,reduceCtorEq,reduceIte,hjl,ht,inR,inN,nat_one_i,List.all_cons,List.all_nil];rfl));(try kernel_rfl);try exact k45_)|fail)
   refine At.nextPick [0,3] (ZB.mk (j+1) (A / 2)) ?_ rfl rfl rfl ?_ rfl ?_ ?_ ?_ rfl
   ·exact k36_
   ·exact k37_
   ·exact yh_
   ·exact k38_
   ·exact yh_
 ·obtain rfl:j=64:=by omega
  have hTk:(bl X).take 64=bl X:=List.take_of_length_le (by omega)
  repeat' (first|refine Ctl.h ?_ |((with_reducible intro hif);first |(focus (cases hif;done)) |((try simp only[JH]at hif);try exact hy_)) |((with_reducible first|apply J22 zl_ za_|apply J23 fol zl_ za_|apply J24);(·rfl);(· exact k32_);(try kernel_rfl);try exact k9_)|fail)
  apply At.endsPick [0,1] za_ (fn:=Try.f153) (rs:=[.tmp 2]) Anc.refl hro (lb_ rfl) rfl
  ·exact k28_
  ·exact k39_
  ·rfl
  ·rfl
  ·rfl
  ·(repeat' (first|exact trivial|exact .inl rfl|exact .inr (.same _)|exact .inr .loose|exact .inr (.arr (by assumption))|apply And.intro |(simp only[bO,hlX,hTk];exact .inr (.same _))))
  ·rfl
  ·exact yh_
  ·exact k7_
  ·(intro β;rw[hlX];rfl)
  ·exact yh_
end Go.Proofs.Ytmljmabbopkpiaa.Vm
end
